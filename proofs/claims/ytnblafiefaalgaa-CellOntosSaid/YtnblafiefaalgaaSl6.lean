/- Slices of slices, loops over maps, how arguments are read, and plain facts, of the certifying translation. -/
import Derived.Test.YtnblafiefaalgaaSl5
import Derived.Laws.IdiomRangeMap
import Derived.Carry
import Derived.OpenShut
import Derived.ChangeOld
import Derived.ProofKit
set_option linter.all false
/- Ranges over a function: words for printed proofs. Slices of one's own that a call reads as data and that stay one's own. -/
namespace Go.Sl
open Go

/-! ### rounds -/
@[reducible] def exq (ex : Exit) (Lo : LL) : Exit → LL → Prop := fun e L => e = ex ∧ L = Lo
@[reducible] def fpost {X : Type} (S : X → LL) (je : Exit) : Flow X X → Exit → LL → Prop
  | .next x => exq .normal (S x)
  | .done x => exq je (S x)
@[reducible] def fval {X : Type} : Flow X X → X | .next x => x | .done x => x
@[reducible] def fex {X : Type} (je : Exit) : Flow X X → Exit | .next _ => .normal | .done _ => je
theorem exq_ok {ex : Exit} {Lo : LL} (h : (match ex with | .normal | .ret | .exit _ => true | _ => false) = true) : ∀ e L, exq ex Lo e L → (∀ c, e ≠ .panic c) ∧ e ≠ .outgrown := by
  rintro e L ⟨rfl, _⟩
  cases e <;> simp at h ⊢
theorem recOk_of {n p d fn D : Nat} {tm : Array Value} {as body : Code} (htm : tm.size = n)
    (has : (match as with | .region _ ops dr => !dr && (match ops.toList with | [o] => o.guard.isNone && (match o.dst, o.op with | some d', .assign (.tmp p') => d' == d && p' == p | _, _ => false) | _ => false) | _ => false) = true) (hp : decide (p < n) = true) (hd : decide (d < n) = true) : RecOk (recOf fn tm p as body D) n p d := by
  refine ⟨rfl, rfl, htm, rfl, ?_, of_decide_eq_true hp, of_decide_eq_true hd⟩
  split at has
  · rename_i id ops dr
    simp only [Bool.and_eq_true, Bool.not_eq_true'] at has
    obtain ⟨rfl, has⟩ := has
    split at has
    · rename_i o ho
      simp only [Bool.and_eq_true, Option.isNone_iff_eq_none] at has
      obtain ⟨hg, has⟩ := has
      split at has
      · rename_i d' p' hdst hop
        simp only [Bool.and_eq_true, beq_iff_eq] at has
        obtain ⟨rfl, rfl⟩ := has
        exact ⟨id, o, by simp only [recOf]; congr 1; rw [← Array.toList_inj]; simpa using ho, hg, hdst, hop⟩
      · cases has
    · cases has
  · cases has

section
variable {C : Ctx} {B : Code} {p : List Nat} {Q : Post} {fr fr1 : Fr} {L L1 : LL}
/-- yield, when the round goes on -/
theorem W_yieldN (σ : List (Nat × Nat)) (k : Nat) (orcs : List (Nat × Orc)) (kF kL : List Nat) {obs : List Prop} {d l nR n1 q d1 : Nat} {y : SV} {rec : Loop} {fr0 : Fr} {Lin Lo : LL} (h : isReg (nav B p) = true) (hrd : C.rd = none)
    (hrun : runR C.P C.n (opsOf (nav B p)) 0 k orcs kF kL fr L = some (fr1, L1, obs)) (ho : AllP obs) (hat : yieldAt (opsOf (nav B p)) k fr1 = some (d, l, y.ren (sig σ))) (hd : decide (d < C.n) = true) (hR : get L1 nR = some (.raw l (.loop rec))) (hrec : RecOk rec n1 q d1)
    (hfr0 : ∀ h (ρ : Nat → Value), Ext C.h0 h → (∀ s v, C.pin s = some v → ρ s = v) → FrOk h (fun c => ρ (sig σ c)) fr0 n1 rec.tmps)
    (hB : BodyC C.P n1 rec.body l (putF (putF fr0 q (.one y)) d1 (.one y)) Lin (exq .normal Lo))
    (hL : keep (Lin.map fun p => sig σ p.1) L1 = some (Lin.map fun p => (sig σ p.1, p.2.ren (sig σ)))) (hnR : (Lin.all fun e => !(sig σ e.1 == nR)) = true) (hlin : decide ((Lin.map fun p => sig σ p.1).Nodup) = true) (hout : lendOk3 σ Lin Lo [] = true)
    (hgo : WO C (opsOf (nav B p)) (k + 1) Q (putF (killFs (anew σ Lin []) fr1) d (.one (.dat .bool true))) (put (putAll σ Lo (killLs (anew σ Lin []) L1)) nR (.raw l (.loop rec)))) :
    W C (nav B p) Q fr L :=
  W_yield σ k orcs kF kL h hrd hrun ho hat (of_decide_eq_true hd) hR hrec hfr0 hB (exq_ok rfl) hL hnR hlin (by rintro e L ⟨_, rfl⟩; exact hout) (by rintro L ⟨_, rfl⟩; exact hgo) (by rintro e L hne ⟨he, _⟩; exact (hne he).elim)
/-- yield, when the loop is left -/
theorem W_yieldD (σ : List (Nat × Nat)) (k : Nat) (orcs : List (Nat × Orc)) (kF kL : List Nat) {obs : List Prop} {d l nR n1 q d1 : Nat} {y : SV} {rec : Loop} {fr0 : Fr} {Lin Lo : LL} (je : Exit) (hje : (match je with | .ret | .exit _ => true | _ => false) = true) (h : isReg (nav B p) = true) (hrd : C.rd = none)
    (hrun : runR C.P C.n (opsOf (nav B p)) 0 k orcs kF kL fr L = some (fr1, L1, obs)) (ho : AllP obs) (hat : yieldAt (opsOf (nav B p)) k fr1 = some (d, l, y.ren (sig σ))) (hd : decide (d < C.n) = true) (hR : get L1 nR = some (.raw l (.loop rec))) (hrec : RecOk rec n1 q d1)
    (hfr0 : ∀ h (ρ : Nat → Value), Ext C.h0 h → (∀ s v, C.pin s = some v → ρ s = v) → FrOk h (fun c => ρ (sig σ c)) fr0 n1 rec.tmps)
    (hB : BodyC C.P n1 rec.body l (putF (putF fr0 q (.one y)) d1 (.one y)) Lin (exq je Lo))
    (hL : keep (Lin.map fun p => sig σ p.1) L1 = some (Lin.map fun p => (sig σ p.1, p.2.ren (sig σ)))) (hnR : (Lin.all fun e => !(sig σ e.1 == nR)) = true) (hlin : decide ((Lin.map fun p => sig σ p.1).Nodup) = true) (hout : lendOk3 σ Lin Lo [] = true)
    (hstop : WO C (opsOf (nav B p)) (k + 1) Q (putF (killFs (anew σ Lin []) fr1) d (.one (.dat .bool false))) (put (putAll σ Lo (killLs (anew σ Lin []) L1)) nR (.raw l (.loop (endRec je rec))))) :
    W C (nav B p) Q fr L :=
  W_yield σ k orcs kF kL h hrd hrun ho hat (of_decide_eq_true hd) hR hrec hfr0 hB (exq_ok (by cases je <;> simp at hje ⊢)) hL hnR hlin (by rintro e L ⟨_, rfl⟩; exact hout) (by rintro L ⟨he, _⟩; subst he; simp at hje) (by
    rintro e L hne ⟨rfl, rfl⟩
    cases e <;> simp at hje <;> exact hstop)
end
theorem bodyQ_mk {post : Exit → LL → Prop} {e : Exit} {fr : Fr} {L Lout : LL} (h1 : post e Lout) (h2 : keep (Lout.map (·.1)) L = some Lout) : bodyQ post e fr L := ⟨Lout, h1, h2⟩

theorem LT_fz {C : Ctx} {fr : Fr} {L : LL} {Q : Post} {e : Exit} (s : Nat) (h : (fzF fr L s).isSome = true) (hw : LT C Q e (fzT fr L s).1 (fzT fr L s).2) : LT C Q e fr L := fun a w hr => hw a w (hr.fzT h)

/-! ### borrowed slices -/
def Ty.flat : Ty → Bool
  | .int _ | .bool | .str => true
  | .slice _ | .tree => false
  | .pair t u => t.flat && u.flat
  | .wrap t => t.flat
  | .arr _ t => t.flat
theorem rep_flat {h h' : Heap} : ∀ (t : Ty) (x : t.den) (cs : List Value), t.flat = true → rep h t x cs → rep h' t x cs
  | .int k, n, cs, _, e => e
  | .bool, b, cs, _, e => e
  | .str, s, cs, _, e => e
  | .slice t, xs, cs, f, e => by cases f
  | .tree, x, cs, f, e => by cases f
  | .pair t u, p, cs, f, e => by
    simp only [Ty.flat, Bool.and_eq_true] at f
    simp only [rep] at e ⊢; obtain ⟨c1, c2, rfl, h1, h2⟩ := e
    exact ⟨c1, c2, rfl, rep_flat t _ _ f.1 h1, rep_flat u _ _ f.2 h2⟩
  | .wrap t, x, cs, f, e => by simp only [rep] at e ⊢; exact rep_flat t x cs f e
  | .arr n t, xs, cs, f, e => by
    simp only [rep] at e ⊢
    exact ⟨e.1, e.2.1, fun i x hix => rep_flat t x _ f (e.2.2 i x hix)⟩
theorem repV_flat {h h' : Heap} {t : Ty} {x : t.den} {v : Value} (f : t.flat = true) (e : RepV h t x v) : RepV h' t x v := by
  unfold RepV at *
  split at e
  · rename_i ha
    obtain ⟨cs, rfl, hr⟩ := e
    rw [if_pos ha]
    exact ⟨cs, rfl, rep_flat _ _ _ f hr⟩
  · rename_i ha
    rw [if_neg ha]
    exact rep_flat _ _ _ f e
def SV.flat : SV → Bool
  | .dat t _ => t.flat
  | .cdat _ _ | .dptr _ _ => false
  | _ => true
def AV.flat : AV → Bool
  | .one x => x.flat
  | .agg xs => xs.all SV.flat
  | .tup xs => xs.all SV.flat
  | _ => false
def LObj.flat : LObj → Bool
  | .one t _ => t.flat
  | .cells cs => cs.all SV.flat
  | .seq t _ => t.flat
  | .map _ _ _ => false
  | .raw _ _ => true
  | .rows _ _ _ _ => false
  | .que _ _ => false
theorem srel_flat {h h' : Heap} {ρ : Nat → Value} {x : SV} {v : Value} (f : x.flat = true) (e : SRel h ρ x v) : SRel h' ρ x v := by
  cases x <;> simp only [SV.flat] at f <;> first
    | exact e
    | cases f
    | exact repV_flat f e
theorem all2_flat {h h' : Heap} {ρ : Nat → Value} {xs : List SV} {vs : List Value} (f : xs.all SV.flat = true) (e : All2 (SRel h ρ) xs vs) : All2 (SRel h' ρ) xs vs := by
  induction e with
  | nil => exact .nil
  | cons h1 _ ih =>
    simp only [List.all_cons, Bool.and_eq_true] at f
    exact .cons (srel_flat f.1 h1) (ih f.2)
theorem vrel_flat {h h' : Heap} {ρ : Nat → Value} {tm : Array Value} {x : AV} {v : Value} (f : x.flat = true) (e : VRel h ρ tm x v) : VRel h' ρ tm x v := by
  cases x <;> simp only [AV.flat] at f
  · exact srel_flat f e
  · obtain ⟨vs, rfl, ha⟩ := e; exact ⟨vs, rfl, all2_flat f ha⟩
  · obtain ⟨vs, rfl, ha⟩ := e; exact ⟨vs, rfl, all2_flat f ha⟩
  · cases f
theorem orel_flat {own : Nat → Prop} {h h' : Heap} {ρ : Nat → Value} {w : World} {q : Value} {o : LObj} (f : o.flat = true) (hn : ∀ b, h b = none → h' b = none) (e : ORel own h ρ w q o) : ORel own h' ρ w q o := by
  cases o <;> simp only [LObj.flat] at f <;> simp only [ORel] at e ⊢
  · obtain ⟨b, cur, el, rfl, h1, h2, h3, h4⟩ := e
    exact ⟨b, cur, el, rfl, h1, hn _ h2, h3, rep_flat _ _ _ f h4⟩
  · obtain ⟨b, cur, el, rfl, h1, h2, h3, h4, h5⟩ := e
    exact ⟨b, cur, el, rfl, h1, hn _ h2, h3, all2_flat f h4, h5⟩
  · rcases e with e | ⟨b, cap, cur, el, rfl, h1, h2, h3, h4, h5, h6, h7⟩
    · exact .inl e
    · exact .inr ⟨b, cap, cur, el, rfl, h1, hn _ h2, h3, h4, h5, h6, fun i x hi => rep_flat _ _ _ f (h7 i x hi)⟩
  · cases f
  · obtain ⟨hq, h1, h2, h3⟩ := e
    exact ⟨hq, h1, hn _ h2, h3⟩
  · cases f
  · cases f
/-- what a call leaves, seen from the heap without the borrowed blocks -/
theorem Out.unborrow {h h1 h' : Heap} {ρ ρ' : Nat → Value} {w w' : World} {Lin Lout : LL} (hx : Ext h h1) (ho : Out h1 ρ w Lin h' ρ' w' Lout) (hf : (Lout.all fun p => p.2.flat) = true) : Out h ρ w Lin h ρ' w' Lout :=
  have hx' : Ext h h' := hx.trans ho.ext
  { ext := Ext.refl h
    heap := fun b cs hb => ho.heap b cs (hx' b cs hb)
    fresh := fun _ e _ => e
    os := ho.os
    tape := ho.tape
    output := ho.output
    grow := ho.grow
    frame := ho.frame
    objs := fun s o hs => orel_flat (List.all_eq_true.1 hf _ (get_mem _ _ _ hs)) (fun b hb => by
      cases hq : h b with
      | none => rfl
      | some cs => have := hx' b cs hq; rw [hb] at this; cases this) (ho.objs s o hs)
    apart := ho.apart
    pins := ho.pins
    low := ho.low }

section
variable {C : Ctx} {h : Heap} {ρ : Nat → Value} {fr : Fr} {L : LL} {a : Act} {w : World}
/-- what can be lent as data -/
def LObj.seqd : LObj → Option ((t : Ty) × List t.den)
  | .seq t xs => some ⟨t, xs⟩
  | .rows _ t xs [] => some ⟨t, xs⟩
  | _ => none
open Classical in
/-- the heap with the blocks of some of our own slices -/
theorem RelH.borrow (hr : RelH C h ρ fr L a w) (bs : List Nat) : ∃ h1 : Heap, Ext h h1 ∧ HeapOk h1 w ∧ (∀ s t xs o, s ∈ bs → get L s = some o → o.seqd = some ⟨t, xs⟩ → rep h1 (.slice t) xs [hdrOf (ρ s)]) ∧
    (∀ b, h b = none → h1 b ≠ none → ∃ s o, s ∈ bs ∧ get L s = some o ∧ Blk (ρ s) b) := by
  let h1 : Heap := fun b => if (∃ s o, s ∈ bs ∧ get L s = some o ∧ Blk (ρ s) b) then (match w.heap[b]? with | some (.cells cur _ _) => some cur.toList | _ => h b) else h b
  have hext : Ext h h1 := by
    intro k ys hk
    have : ¬ ∃ s o, s ∈ bs ∧ get L s = some o ∧ Blk (ρ s) k := by
      rintro ⟨s, o, _, hs, hb⟩
      have := ((hr.objs s _ hs).block hb).2.1
      rw [hk] at this; cases this
    simp only [h1, if_neg this]
    exact hk
  have at1 : ∀ s o b, s ∈ bs → get L s = some o → Blk (ρ s) b → ∀ cur e fz, w.heap[b]? = some (.cells cur e fz) → h1 b = some cur.toList := by
    intro s o b hm hs hb cur e fz hw
    have hc : ∃ s o, s ∈ bs ∧ get L s = some o ∧ Blk (ρ s) b := ⟨s, o, hm, hs, hb⟩
    simp only [h1, if_pos hc, hw]
  refine ⟨h1, hext, ?_, ?_, ?_⟩
  · intro k ys hk
    by_cases hc : ∃ s o, s ∈ bs ∧ get L s = some o ∧ Blk (ρ s) k
    · simp only [h1, if_pos hc] at hk
      split at hk
      · rename_i cur el fz hw
        simp only [Option.some.injEq] at hk; subst hk
        exact ⟨cur, el, fz, hw, List.prefix_refl _⟩
      · exact hr.heap k ys hk
    · simp only [h1, if_neg hc] at hk
      exact hr.heap k ys hk
  · intro s t xs o hm hs hq
    unfold LObj.seqd at hq
    split at hq
    · rename_i t' xs'
      simp only [Option.some.injEq, Sigma.mk.injEq] at hq
      obtain ⟨rfl, hq⟩ := hq
      obtain rfl := eq_of_heq hq
      rw [(seq_hdr (hr.objs s _ hs)).1]
      rcases hr.objs s _ hs with ⟨hrs, hnil⟩ | ⟨b, cap, cur, el, hrs, h1', h2, h3, h4, h5, h6, h7⟩
      · rw [hrs, hnil]
        exact ⟨none, 0, rfl, Nat.zero_le _, Nat.le_refl _, .inl rfl⟩
      · have hb1 : h1 b = some cur.toList := at1 s _ b hm hs (by rw [hrs]; rfl) _ _ _ h3
        rw [hrs]
        have hle : List.length xs' * t'.size ≤ cur.toList.length := by simp [h4]; exact Nat.mul_le_mul_right _ h5
        refine ⟨_, cap, rfl, h6, h5, .inr ⟨b, 0, cur.toList, rfl, hb1, by omega, ?_⟩⟩
        intro i x hi
        rw [Nat.zero_add]
        exact rep_mono hext _ _ _ (h7 i x hi)
    · rename_i d t' xs'
      simp only [Option.some.injEq, Sigma.mk.injEq] at hq
      obtain ⟨rfl, hq⟩ := hq
      obtain rfl := eq_of_heq hq
      obtain ⟨hd, heads, F, hrs, h1', h2, h3⟩ := hr.objs s _ hs
      rw [hrs, hdrOf_mkR]
      exact h3.tree.rep hext _ _ _ _ _ fun b hb cur e hw => at1 s _ b hm hs (by rw [hrs]; exact blk_mkR.2 hb) _ _ _ hw
    · cases hq
  · intro b h0 hb
    by_cases hc : ∃ s o, s ∈ bs ∧ get L s = some o ∧ Blk (ρ s) b
    · exact hc
    · simp only [h1, if_neg hc] at hb
      exact (hb h0).elim

/-- a value seen with a slice of our own as data: parts of it, too -/
def SV.brw (s : Nat) (t : Ty) (xs : List t.den) : SV → SV
  | .sub r z i j => if r = s ∧ z = t.size then .dat (.slice t) ((xs.drop i.toNat).take (j.toNat - i.toNat)) else (SV.sub r z i j).frz s t xs
  | x => x.frz s t xs
def AV.brw (s : Nat) (t : Ty) (xs : List t.den) : AV → AV
  | .one x => .one (x.brw s t xs)
  | .agg cs => .agg (cs.map (SV.brw s t xs))
  | .tup cs => .tup (cs.map (SV.brw s t xs))
  | .mb g b x => .mb g b (x.brw s t xs)
theorem SRel.brw {h' : Heap} {s : Nat} {t : Ty} {xs : List t.den} {x : SV} {v : Value} (hx : Ext h h') (hs : rep h' (.slice t) xs [hdrOf (ρ s)]) (e : SRel h ρ x v) : SRel h' ρ (x.brw s t xs) v := by
  cases x
  case sub r z i j =>
    simp only [SV.brw]
    split
    · rename_i hc
      obtain ⟨rfl, rfl⟩ := hc
      obtain ⟨bs, n, cap, hrs, a0, a1, a2, a3, rfl⟩ := e
      rw [hrs] at hs
      obtain ⟨a', cap', hv, hm, hc, hr⟩ := sl_form hs
      simp only [Value.slice.injEq] at hv
      obtain ⟨rfl, rfl, rfl⟩ := hv
      exact repV_slice.2 (sub_rep (h := h') (cap := cap) (c' := cap - i.toNat) (q := cap) (by omega) (by omega) hc hm (by omega) (by omega) hr)
    · exact SRel.frz hx hs e
  all_goals exact SRel.frz hx hs e
theorem all2_brw {h' : Heap} {s : Nat} {t : Ty} {xs : List t.den} {cs : List SV} {vs : List Value} (hx : Ext h h') (hs : rep h' (.slice t) xs [hdrOf (ρ s)]) (hall : All2 (SRel h ρ) cs vs) :
    All2 (SRel h' ρ) (cs.map (SV.brw s t xs)) vs := by
  induction hall with
  | nil => exact .nil
  | cons h1 _ ih => exact .cons (SRel.brw hx hs h1) ih
def brw (L : LL) : List Nat → Fr → Fr
  | [], fr => fr
  | s :: bs, fr => match (get L s).bind LObj.seqd with
    | some ⟨t, xs⟩ => mapv (AV.brw s t xs) (brw L bs fr)
    | _ => brw L bs fr
theorem brw_ok {h1 : Heap} {n : Nat} {tm : Array Value} (hx : Ext h h1) (hf : FrOk h ρ fr n tm) : ∀ (bs : List Nat), (∀ s t xs o, s ∈ bs → get L s = some o → o.seqd = some ⟨t, xs⟩ → rep h1 (.slice t) xs [hdrOf (ρ s)]) → FrOk h1 ρ (brw L bs fr) n tm
  | [], _ => fun t av ht => ⟨(hf t av ht).1, (hf t av ht).2.mono hx⟩
  | s :: bs, hs => by
    have ih := brw_ok hx hf bs fun s' t xs o hm hg => hs s' t xs o (by simp [hm]) hg
    unfold brw
    split
    · rename_i t xs hg
      obtain ⟨o, hg, hq⟩ := Option.bind_eq_some_iff.1 hg
      have hrep := hs s t xs o (by simp) hg hq
      intro t' av ht
      rw [get_mapv] at ht
      obtain ⟨y, hy, rfl⟩ := Option.map_eq_some_iff.1 ht
      obtain ⟨hlt', hrel⟩ := ih t' y hy
      refine ⟨hlt', ?_⟩
      cases y with
      | one x => exact SRel.brw (Ext.refl _) hrep hrel
      | agg cs =>
        obtain ⟨vs, hv, hall⟩ := hrel
        exact ⟨vs, hv, all2_brw (Ext.refl _) hrep hall⟩
      | tup cs =>
        obtain ⟨vs, hv, hall⟩ := hrel
        exact ⟨vs, hv, all2_brw (Ext.refl _) hrep hall⟩
      | mb g b x => exact fun ht => SRel.brw (Ext.refl _) hrep (hrel ht)
    · exact ih

theorem callOf_fr {n : Nat} (hfr : FrOk h ρ fr n a.tmps) {gd : Option (Nat × Bool)} (hg : ∀ g b, gd = some (g, b) → a.tmps[g]? = some (.bool b)) {o : Oper} {f : Nat} {as : List AV} (hc : callOf fr gd o.op = some (f, as)) (hfn : isFn C.P f = true) :
    ∃ vs : List Value, (execOp a.eval o).run C.P w = .ok (.enter f vs.toArray) w ∧ All2 (VRel h ρ #[]) as vs := by
  unfold callOf at hc
  split at hc
  · rename_i c hop
    split at hc
    · rename_i x hcal
      split at hc
      · rename_i f' caps hx
        obtain ⟨as', has, he⟩ := Option.map_eq_some_iff.1 hc
        simp only [Prod.mk.injEq] at he
        obtain ⟨rfl, rfl⟩ := he
        obtain ⟨cs, hcs, hall⟩ := (evS_sound hfr hg hx).1
        have hall' : All2 (VRel h ρ #[]) as' (c.args.toList.map a.eval) := by
          refine all2_map_right (mapM_all2 (R := fun x (o : Operand) => VRel h ρ #[] x (a.eval o)) (fun o x hx => ?_) _ _ has)
          obtain ⟨h1, h2⟩ := evS_sound hfr hg hx
          exact h1.anyTm h2
        refine ⟨c.args.toList.map a.eval ++ cs, ?_, all2_append hall' (all2_caps hall)⟩
        simp only [execOp, hop, resolve, hcal, hcs, Deferred.ofValue, Sem.run_bind, Sem.run_pure, Result.andThen_ok, invoke]
        rw [run_callFunc hfn]
        congr 2
        apply Array.ext'
        simp
      · simp at hc
    · simp at hc
  · simp at hc

/-- what is read off at a call whose frame is seen with borrowed slices -/
structure CallAtB (C : Ctx) (ops : Array Oper) (i : Nat) (fr frb : Fr) (us : List (Option Ty)) (f : Nat) (as : List AV) (d : Nat) (p : Prop) : Prop where
  ok : (match ops[i]? with
    | some o => (match guardIs ops fr o with
      | some (gd, q) => (callOf frb gd o.op).bind fun r => (coer us r.2).bind fun as => o.dst.map fun d => (r.1, as, d, q)
      | none => none)
    | none => none) = some (f, as, d, p)
  fn : isFn C.P f = true
  lt : decide (d < C.n) = true

variable {Q : Post}
/-- a call that reads some of our own slices as data; they stay our own -/
theorem WO_lendB {ops : Array Oper} {i j : Nat} {us : List (Option Ty)} {f : Nat} {as : List AV} {d : Nat} {p : Prop} {R : AV} {Lin Lout : LL} (bs : List Nat) (σ : List (Nat × Nat)) (nn : List Nat) (hj : j = i + 1)
    (hc : CallAtB C ops i fr (brw L bs fr) us f (as.map (AV.ren (sig σ))) d p) (hp : p) (hF : FnC C.P f as Lin R Lout)
    (hL : keep (Lin.map fun p => sig σ p.1) L = some (Lin.map fun p => (sig σ p.1, p.2.ren (sig σ)))) (hk : (lendOk3 σ Lin Lout nn && R.inM (Lin.map (·.1) ++ nn) && (R.flat && Lout.all fun p => p.2.flat) && Lin.all fun p => !bs.contains (sig σ p.1)) = true)
    (hn : WO C ops j Q (putF (killFs (anew σ Lin nn) fr) d (R.ren (sig σ))) (putAll σ Lout (killLs (anew σ Lin nn) L))) : WO C ops i Q fr L := by
  intro a w ⟨h, ρ, hr⟩
  simp only [Bool.and_eq_true] at hk
  obtain ⟨⟨⟨hk, hR⟩, hRf, hLf⟩, hbs⟩ := hk
  have hk0 := hk
  unfold lendOk3 at hk0
  simp only [Bool.and_eq_true, decide_eq_true_eq] at hk0
  obtain ⟨⟨⟨⟨⟨⟨hnd, hsnd⟩, _⟩, _⟩, _⟩, _⟩, _⟩ := hk0
  have hok := hc.ok
  split at hok
  · rename_i o ho
    split at hok
    · rename_i gd q hg
      obtain ⟨⟨f', as0⟩, hcall, hd⟩ := Option.bind_eq_some_iff.1 hok
      obtain ⟨as', hco, hd⟩ := Option.bind_eq_some_iff.1 hd
      obtain ⟨d', hdst, he⟩ := Option.map_eq_some_iff.1 hd
      simp only [Prod.mk.injEq] at he
      obtain ⟨rfl, rfl, rfl, rfl⟩ := he
      obtain ⟨hw, hgd⟩ := guardIs_spec hr hg hp
      obtain ⟨h1, hx1, hheap1, hrep1, hnew1⟩ := hr.borrow bs
      obtain ⟨vs, hrun, hall0⟩ := callOf_fr (w := w) (C := C) (brw_ok hx1 hr.fr bs hrep1) hgd hcall hc.fn
      have hall := coer_spec _ _ _ _ hco hall0
      have hlen : i < ops.toList.length := by
        have := (Array.getElem?_eq_some_iff.1 ho).1; simpa using this
      have hdrop : ops.toList.drop i = o :: ops.toList.drop j := by
        rw [hj, ← List.getElem_cons_drop hlen]
        congr 1
        have := (Array.getElem?_eq_some_iff.1 ho).2
        simpa using this
      rw [hdrop]
      refine wpList_step fun K hK => ?_
      rw [if_pos hw]
      unfold Oper.wp
      rw [hrun, Oper.upon_enter]
      have inL : ∀ {c o}, get Lin c = some o → get L (sig σ c) = some (o.ren (sig σ)) := fun hg => keep_map hL (get_mem _ _ _ hg)
      refine (hF h1 (fun c => ρ (sig σ c)) w vs hheap1 (fun s o hs => orel_ren.2 (((hr.objs _ _ (inL hs)).own_mono fun _ _ => trivial).toHeap hx1 (fun _ _ => rfl) fun b hb => ?_)) ?_ (all2_vrel_ren hall)).mono ?_
      · cases hq : h1 b with
        | none => rfl
        | some cs =>
          obtain ⟨s', o', hm, hs', hb'⟩ := hnew1 b ((hr.objs _ _ (inL hs)).block hb).2.1 (by simp [hq])
          have hne : s' ≠ sig σ s := by
            rintro rfl
            have := List.all_eq_true.1 hbs _ (get_mem _ _ _ hs)
            simp [hm] at this
          exact (hr.apart s' (sig σ s) _ _ b hne hs' (inL hs) hb' hb).elim
      · intro s s' o1 o2 b hne hs hs' hb
        refine hr.apart (sig σ s) (sig σ s') _ _ b (fun e => hne ?_) (inL hs) (inL hs') hb
        exact nodup_map_inj hsnd (List.mem_append_left _ (List.mem_map.2 ⟨_, get_mem _ _ _ hs, rfl⟩)) (List.mem_append_left _ (List.mem_map.2 ⟨_, get_mem _ _ _ hs', rfl⟩)) e
      · rintro e w' ⟨v, h', ρ', rfl, hrel0, hout0⟩
        have hout := hout0.unborrow hx1 hLf
        have hrel := vrel_flat (h' := h) hRf hrel0
        refine hK _ _ (hn _ _ ?_)
        rw [hdst]
        obtain ⟨ρ2, hρ, hr2⟩ := hr.lend3 hk hL hout
        refine ⟨h, ρ2, hr2.putSlot d' _ v (of_decide_eq_true hc.lt) ?_⟩
        cases R with
        | one x => exact srel_result hρ hR hrel
        | tup xs =>
          obtain ⟨us, rfl, hall2⟩ := hrel
          exact ⟨us, rfl, all2_result hρ hR hall2⟩
        | agg xs =>
          obtain ⟨us, rfl, hall2⟩ := hrel
          exact ⟨us, rfl, all2_result hρ hR hall2⟩
        | mb _ _ _ => simp [AV.inM] at hR
    · simp at hok
  · simp at hok
end
end Go.Sl

/- Slices of slices of our own: rows taken out, given back, put in another order; made data; begun with nil. -/
namespace Go.Sl
open Go

/-- a row, as an object -/
def rowObj : (d : Nat) → (t : Ty) → t.den → Option LObj
  | 0, .slice u, x => some (.seq u x)
  | d + 1, .slice u, x => some (.rows d u x [])
  | _, _, _ => none
/-- an object, as a row -/
def rowOf (d : Nat) (t : Ty) : LObj → Option t.den
  | .seq u x => if h : t = .slice u ∧ d = 0 then some (h.1 ▸ x) else none
  | .rows d' u x [] => if h : t = .slice u ∧ d = d' + 1 then some (h.1 ▸ x) else none
  | _ => none

section
variable {C : Ctx} {h : Heap} {ρ : Nat → Value} {fr : Fr} {L : LL} {a : Act} {w : World}

/-! ### what belongs to a name changes -/
def Ghost (r r' : Value) : Prop := (∀ ad, r ≠ .pointer ad) ∧ hdrOf r' = hdrOf r ∧ headsOf r' = headsOf r
theorem srel_ghost {s : Nat} {r' : Value} (hg : Ghost (ρ s) r') {x : SV} {v : Value} (e : SRel h ρ x v) : SRel h (upd ρ s r') x v := by
  obtain ⟨h1, h2, h3⟩ := hg
  have hh : ∀ t, hdrOf (upd ρ s r' t) = hdrOf (ρ t) := by
    intro t; unfold upd; split
    · rename_i e; subst e; exact h2
    · rfl
  have hq : ∀ t, headsOf (upd ρ s r' t) = headsOf (ρ t) := by
    intro t; unfold upd; split
    · rename_i e; subst e; exact h3
    · rfl
  have hp : ∀ t ad, ρ t = .pointer ad → upd ρ s r' t = .pointer ad := by
    intro t ad ht; unfold upd; split
    · rename_i e; subst e; exact (h1 ad ht).elim
    · exact ht
  cases x <;> try exact e
  case ptr t o =>
    obtain ⟨b, hb, rfl⟩ := e
    exact ⟨b, hp _ _ hb, rfl⟩
  case slc t => simp only [SRel] at e ⊢; rw [hh]; exact e
  case eptr t z i o =>
    obtain ⟨b, hb, hi, rfl⟩ := e
    refine ⟨b, ?_, hi, rfl⟩
    rcases hb with hb | hb
    · exact .inl (hp _ _ hb)
    · right; rw [hh]; exact hb
  case fn f caps =>
    obtain ⟨cs, rfl, hall⟩ := e
    refine ⟨cs, rfl, ?_⟩
    induction hall with
    | nil => exact .nil
    | cons h1 _ ih => obtain ⟨b, hb, rfl⟩ := h1; exact .cons ⟨b, hp _ _ hb, rfl⟩ ih
  case sub t z i j => simp only [SRel] at e ⊢; rw [hh]; exact e
  case rhd t i => simp only [SRel] at e ⊢; rw [hq]; exact e
theorem all2_ghost {s : Nat} {r' : Value} (hg : Ghost (ρ s) r') {l : List SV} {m : List Value} (e : All2 (SRel h ρ) l m) : All2 (SRel h (upd ρ s r')) l m := by
  induction e with
  | nil => exact .nil
  | cons h1 _ ih => exact .cons (srel_ghost hg h1) ih
theorem vrel_ghost {s : Nat} {r' : Value} (hg : Ghost (ρ s) r') {tm : Array Value} {x : AV} {v : Value} (e : VRel h ρ tm x v) : VRel h (upd ρ s r') tm x v := by
  cases x
  · exact srel_ghost hg e
  · obtain ⟨vs, rfl, hl⟩ := e; exact ⟨vs, rfl, all2_ghost hg hl⟩
  · obtain ⟨vs, rfl, hl⟩ := e; exact ⟨vs, rfl, all2_ghost hg hl⟩
  · exact fun ht => srel_ghost hg (e ht)
theorem orel_ghost {own : Nat → Prop} {s : Nat} {r' q : Value} (hg : Ghost (ρ s) r') {o : LObj} (e : ORel own h ρ w q o) : ORel own h (upd ρ s r') w q o := by
  cases o <;> try exact e
  case cells cs =>
    obtain ⟨b, cur, el, rfl, h1, h2, h3, h4, h5⟩ := e
    exact ⟨b, cur, el, rfl, h1, h2, h3, all2_ghost hg h4, h5⟩
  case rows d t xs hs =>
    obtain ⟨hd, heads, F, h1, h2, h3, h4⟩ := e
    have := h4.map (fun x => x) (h' := h) (ρ' := upd ρ s r') (w' := w) (fun _ _ _ e => e) (fun _ _ e => srel_ghost hg e) (fun _ _ => rfl)
    rw [mapHs_id] at this
    exact ⟨hd, heads, F, h1, h2, h3, this⟩
/-- less belongs to a name -/
theorem RelH.shrink (hr : RelH C h ρ fr L a w) {s : Nat} {o o' : LObj} {r' : Value} (hs : get L s = some o) (hn : nameOk s = true) (hg : Ghost (ρ s) r') (hb : ∀ b, Blk r' b → Blk (ρ s) b) (ho : ORel C.own h (upd ρ s r') w r' o') :
    RelH C h (upd ρ s r') fr (put L s o') a w where
  size := hr.size
  defers := hr.defers
  fr := fun t av ht => ⟨(hr.fr t av ht).1, vrel_ghost hg (hr.fr t av ht).2⟩
  heap := hr.heap
  objs := fun t x hx => by
    rw [get_put] at hx
    by_cases hst : s = t
    · subst hst
      rw [if_pos rfl] at hx
      obtain rfl := Option.some.inj hx
      simpa [upd] using ho
    · rw [if_neg hst] at hx
      have : upd ρ s r' t = ρ t := by simp [upd, Ne.symm hst]
      rw [this]
      exact orel_ghost hg (hr.objs t x hx)
  apart := fun t t' x x' b hne hx hx' hbt => by
    have key : ∀ q y, get (put L s o') q = some y → (∃ z, get L q = some z) ∧ (Blk (upd ρ s r' q) b → Blk (ρ q) b) := by
      intro q y hy
      rw [get_put] at hy
      by_cases hsq : s = q
      · subst hsq; exact ⟨⟨o, hs⟩, fun hq => hb b (by simpa [upd] using hq)⟩
      · rw [if_neg hsq] at hy; exact ⟨⟨y, hy⟩, fun hq => by simpa [upd, Ne.symm hsq] using hq⟩
    obtain ⟨⟨z, hz⟩, k1⟩ := key t x hx
    obtain ⟨⟨z', hz'⟩, k2⟩ := key t' x' hx'
    exact fun hb' => hr.apart t t' z z' b hne hz hz' (k1 hbt) (k2 hb')
  ext := hr.ext
  fresh := hr.fresh
  os := hr.os
  tape := hr.tape
  output := hr.output
  grow := hr.grow
  frame := hr.frame
  xs := hr.xs
  pin := fun t v hv => by
    have hts : t ≠ s := by rintro rfl; rw [hr.pinlo _ hn] at hv; cases hv
    simp [upd, hts, hr.pin t v hv]
  pinlo := hr.pinlo
  low := fun t x b hx hlt hbt => by
    rw [get_put] at hx
    by_cases hst : s = t
    · subst hst; exact hr.low s o b hs hlt (hb b (by simpa [upd] using hbt))
    · rw [if_neg hst] at hx; exact hr.low t x b hx hlt (by simpa [upd, Ne.symm hst] using hbt)
theorem RelH.reput (hr : RelH C h ρ fr L a w) {s : Nat} {o o' : LObj} (hs : get L s = some o) (ho : ORel C.own h ρ w (ρ s) o') : RelH C h ρ fr (put L s o') a w :=
  have key : ∀ {q y}, get (put L s o') q = some y → ∃ z, get L q = some z := by
    intro q y hy
    rw [get_put] at hy
    by_cases hsq : s = q
    · subst hsq; exact ⟨o, hs⟩
    · rw [if_neg hsq] at hy; exact ⟨y, hy⟩
  { hr with
    objs := fun t x hx => by
      rw [get_put] at hx
      by_cases hst : s = t
      · subst hst
        rw [if_pos rfl] at hx
        obtain rfl := Option.some.inj hx
        exact ho
      · rw [if_neg hst] at hx; exact hr.objs t x hx
    apart := fun t t' x x' b hne hx hx' => by
      obtain ⟨z, hz⟩ := key hx
      obtain ⟨z', hz'⟩ := key hx'
      exact hr.apart t t' z z' b hne hz hz'
    low := fun t x b hx => by
      obtain ⟨z, hz⟩ := key hx
      exact hr.low t z b hz }

theorem flatten_set_nil : ∀ (Fs : List (List Nat)) (i : Nat) (b : Nat), b ∈ (Fs.set i []).flatten → b ∈ Fs.flatten
  | [], _, _, h => by simpa using h
  | F :: Fs, 0, b, h => by simp only [List.set_cons_zero, List.flatten_cons, List.nil_append] at h; simp [h]
  | F :: Fs, i + 1, b, h => by
    simp only [List.set_cons_succ, List.flatten_cons, List.mem_append] at h ⊢
    exact h.imp id (flatten_set_nil Fs i b)
theorem flatten_set_nodup : ∀ (Fs : List (List Nat)) (i : Nat) (Fi : List Nat), Fs.flatten.Nodup → Fs[i]? = some Fi → (Fs.set i []).flatten.Nodup ∧ Fi.Nodup ∧ ∀ b ∈ Fi, b ∉ (Fs.set i []).flatten
  | [], _, _, _, h => by simp at h
  | F :: Fs, 0, Fi, hn, h => by
    simp only [List.getElem?_cons_zero, Option.some.injEq] at h
    subst h
    rw [List.flatten_cons, List.nodup_append] at hn
    simp only [List.set_cons_zero, List.flatten_cons, List.nil_append]
    exact ⟨hn.2.1, hn.1, fun b hb hb' => hn.2.2 b hb b hb' rfl⟩
  | F :: Fs, i + 1, Fi, hn, h => by
    simp only [List.getElem?_cons_succ] at h
    rw [List.flatten_cons, List.nodup_append] at hn
    obtain ⟨h1, h2, h3⟩ := flatten_set_nodup Fs i Fi hn.2.1 h
    simp only [List.set_cons_succ, List.flatten_cons]
    refine ⟨List.nodup_append.2 ⟨hn.1, h1, fun x hx y hy => hn.2.2 x hx y (flatten_set_nil _ _ _ hy)⟩, h2, fun b hb hb' => ?_⟩
    rcases List.mem_append.1 hb' with hb' | hb'
    · exact hn.2.2 b hb' b (List.mem_flatten.2 ⟨Fi, List.mem_of_getElem? h, hb⟩) rfl
    · exact h3 b hb hb'
/-- the other way: a row's blocks come back -/
theorem flatten_fill : ∀ (Fs : List (List Nat)) (i : Nat) (Fi : List Nat), Fs.flatten.Nodup → Fs[i]? = some [] → Fi.Nodup → (∀ b ∈ Fi, b ∉ Fs.flatten) → (Fs.set i Fi).flatten.Nodup ∧ ∀ b, b ∈ (Fs.set i Fi).flatten ↔ b ∈ Fi ∨ b ∈ Fs.flatten
  | [], _, _, _, h, _, _ => by simp at h
  | F :: Fs, 0, Fi, hn, h, hF, hd => by
    simp only [List.getElem?_cons_zero, Option.some.injEq] at h
    subst h
    simp only [List.flatten_cons, List.nil_append] at hn hd
    simp only [List.set_cons_zero, List.flatten_cons, List.nil_append, List.mem_append]
    exact ⟨List.nodup_append.2 ⟨hF, hn, fun x hx y hy e => hd x hx (e ▸ hy)⟩, by first | exact fun b => Iff.rfl | exact fun _ => trivial⟩
  | F :: Fs, i + 1, Fi, hn, h, hF, hd => by
    simp only [List.getElem?_cons_succ] at h
    rw [List.flatten_cons, List.nodup_append] at hn
    obtain ⟨h1, h2⟩ := flatten_fill Fs i Fi hn.2.1 h hF (fun b hb hb' => hd b hb (by simp [hb']))
    simp only [List.set_cons_succ, List.flatten_cons, List.mem_append]
    refine ⟨List.nodup_append.2 ⟨hn.1, h1, fun x hx y hy e => ?_⟩, fun b => ?_⟩
    · subst e
      rcases (h2 x).1 hy with hy | hy
      · exact hd x hy (by simp [hx])
      · exact hn.2.2 x hx x hy rfl
    · rw [h2]
      constructor
      · rintro (h | h | h)
        · exact .inr (.inl h)
        · exact .inl h
        · exact .inr (.inr h)
      · rintro (h | h | h)
        · exact .inr (.inl h)
        · exact .inl h
        · exact .inr (.inr h)
theorem nodup_mem_cons {b : Nat} {F : List Nat} (h : (b :: F).Nodup) : b ∉ F ∧ F.Nodup := List.nodup_cons.1 h

theorem taken_cons {e : Int × Bool × SV} {r : List (Int × Bool × SV)} {j : Nat} : taken (e :: r) j = ((e.2.1 && e.1 == (j : Int)) || taken r j) := by
  unfold taken; rw [List.any_cons]
theorem hole_none {hs : List (Int × Bool × SV)} {j : Nat} (h : ∀ e ∈ hs, e.1 ≠ (j : Int)) : hole hs j = none ∧ taken hs j = false := by
  induction hs with
  | nil => exact ⟨rfl, rfl⟩
  | cons e r ih =>
    obtain ⟨h1, h2⟩ := ih fun x hx => h x (by simp [hx])
    rw [hole_cons, if_neg (h e (by simp)), taken_cons, h2]
    have := h e (by simp)
    simp [h1, this]

/-- a row's object, off its tree -/
theorem row_orel {own : Nat → Prop} : ∀ {d : Nat} {t : Ty} {x : t.den} {v : Value} {F : List Nat} {ob : LObj}, TreeR h w d t x v F → rowObj d t x = some ob → F.Nodup → (∀ b ∈ F, own b ∧ h b = none) →
    ∃ r, hdrOf r = v ∧ v.oneCell' = true ∧ (∀ b, Blk r b ↔ b ∈ F) ∧ ∀ ρ', ORel own h ρ' w r ob
  | 0, .slice u, xs, v, F, ob, e, ho, hn, hF => by
    simp only [rowObj, Option.some.injEq] at ho
    subst ho
    rcases e with ⟨rfl, h0, rfl⟩ | ⟨b, cap, cur, el, rfl, rfl, e3, e4, e5, e6, e7⟩
    · exact ⟨.slice none 0 0, rfl, rfl, fun b => by simp [Blk], fun _ => .inl ⟨rfl, h0⟩⟩
    · exact ⟨_, rfl, rfl, fun b' => by simp [Blk, eq_comm], fun _ => .inr ⟨b, cap, cur, el, rfl, (hF b (by simp)).1, (hF b (by simp)).2, e3, e4, e5, e6, e7⟩⟩
  | d + 1, .slice u, xs, v, F, ob, e, ho, hn, hF => by
    simp only [rowObj, Option.some.injEq] at ho
    subst ho
    rcases e with ⟨rfl, h0, rfl⟩ | ⟨b, cap, cur, el, Fs, rfl, rfl, e2, e3, e4, e5, e6, e7⟩
    · have h0 : xs = [] := h0
      subst h0
      exact ⟨mkR (.slice none 0 0) [] [], rfl, rfl, fun b => by rw [blk_mkR], fun _ => ⟨_, _, _, rfl, List.nodup_nil, by simp, .inl ⟨rfl, rfl, rfl, rfl⟩⟩⟩
    · refine ⟨mkR (.slice (some ⟨b, 0, none⟩) (List.length xs) cap) (cur.toList.take (List.length xs)) (b :: Fs.flatten), rfl, rfl, fun k => by rw [blk_mkR], fun _ => ⟨_, _, _, rfl, hn, hF, .inr ⟨b, cap, cur, el, Fs, rfl, rfl, e2, ?_, e3, e4, e5, e6, fun i x hi => ?_⟩⟩⟩
      · have : cur.toList.length = cap := by rw [Array.length_toList]; exact e4
        rw [List.length_take, this]; exact Nat.min_eq_left e5
      · obtain ⟨vi, Fi, g1, g2, g3⟩ := e7 i x hi
        have hil : i < List.length xs := (List.getElem?_eq_some_iff.1 hi).1
        refine ⟨vi, vi, Fi, g1, by rw [List.getElem?_take_of_lt hil, Array.getElem?_toList]; exact g1, g2, rfl, ?_, by rw [if_neg (by simp [taken])]; exact g3⟩
        exact row_one g3
  | 0, .int _, _, _, _, _, e, _, _, _ | 0, .bool, _, _, _, _, e, _, _, _ | 0, .str, _, _, _, _, e, _, _, _ | 0, .pair _ _, _, _, _, _, e, _, _, _ | 0, .wrap _, _, _, _, _, e, _, _, _ | 0, .arr _ _, _, _, _, _, e, _, _, _ | 0, .tree, _, _, _, _, e, _, _, _ => by cases e
  | _ + 1, .int _, _, _, _, _, e, _, _, _ | _ + 1, .bool, _, _, _, _, e, _, _, _ | _ + 1, .str, _, _, _, _, e, _, _, _ | _ + 1, .pair _ _, _, _, _, _, e, _, _, _ | _ + 1, .wrap _, _, _, _, _, e, _, _, _ | _ + 1, .arr _ _, _, _, _, _, e, _, _, _ | _ + 1, .tree, _, _, _, _, e, _, _, _ => by cases e
where
  row_one : ∀ {d : Nat} {t : Ty} {x : t.den} {v : Value} {F : List Nat}, TreeR h w d t x v F → v.oneCell' = true
    | 0, .slice u, _, _, _, e => by rcases e with ⟨rfl, _⟩ | ⟨_, _, _, _, rfl, _⟩ <;> rfl
    | d + 1, .slice u, _, _, _, e => by rcases e with ⟨rfl, _⟩ | ⟨_, _, _, _, _, rfl, _⟩ <;> rfl
    | 0, .int _, _, _, _, e | 0, .bool, _, _, _, e | 0, .str, _, _, _, e | 0, .pair _ _, _, _, _, e | 0, .wrap _, _, _, _, e | 0, .arr _ _, _, _, _, e | 0, .tree, _, _, _, e => by cases e
    | _ + 1, .int _, _, _, _, e | _ + 1, .bool, _, _, _, e | _ + 1, .str, _, _, _, e | _ + 1, .pair _ _, _, _, _, e | _ + 1, .wrap _, _, _, _, e | _ + 1, .arr _ _, _, _, _, e | _ + 1, .tree, _, _, _, e => by cases e

/-! ### a row taken out -/
theorem Rel.take {s n : Nat} {d : Nat} {t : Ty} {xs : List t.den} {hs : List (Int × Bool × SV)} {i : Int} {x : t.den} {ob : LObj} (hr : Rel C fr L a w) (hg : get L s = some (.rows d t xs hs)) (hi : Idx xs i x) (hne : ∀ e ∈ hs, e.1 ≠ i)
    (hns : nameOk s = true) (hnn : nameOk n = true) (hne2 : n ≠ s) (hlt : n < 1000 → s < 1000) (hro : rowObj d t x = some ob) :
    Rel C (killF n fr) (put (newL n ob L) s (.rows d t xs ((i, true, .slc n) :: mapHs (SV.kill n) hs))) a w := by
  obtain ⟨h, ρ, hr⟩ := hr
  obtain ⟨hi0, hix⟩ := hi
  have hit : (i.toNat : Int) = i := by omega
  obtain ⟨hd, heads, F, hρ, hF1, hF2, hR⟩ := hr.objs s _ hg
  rcases hR with ⟨_, rfl, _⟩ | ⟨b, cap, cur, el, Fs, e1, e2, e3, e4, e5, e6, e7, e8, e9⟩
  · simp at hix
  · obtain ⟨h0, t0⟩ := hole_none (j := i.toNat) (hs := hs) (fun e he => by rw [hit]; exact hne e he)
    obtain ⟨c, vi, Fi, g1, g2, g3, g4, g4', g5⟩ := e9 i.toNat x hix
    rw [h0] at g4
    have g4 : c = vi := g4
    subst g4
    rw [if_neg (by rw [t0]; simp)] at g5
    rw [e2] at hF1
    obtain ⟨hbF, hFn⟩ := nodup_mem_cons hF1
    obtain ⟨k1, k2, k3⟩ := flatten_set_nodup Fs i.toNat Fi hFn g3
    have hFi : ∀ k ∈ Fi, k ∈ F := fun k hk => by rw [e2]; exact List.mem_cons_of_mem _ (List.mem_flatten.2 ⟨Fi, List.mem_of_getElem? g3, hk⟩)
    -- what is left of s
    have hleft : ∀ (ρ' : Nat → Value) (sv : SV) (hs' : List (Int × Bool × SV)), (∀ e ∈ hs', e.1 ≠ i) → (∀ j, hole hs' j = none → hole hs j = none) → (∀ j, taken hs' j = taken hs j) → (∀ j sv' c, hole hs' j = some sv' → (∃ q, hole hs j = some q ∧ (SRel h ρ q.2 c → SRel h ρ' sv'.2 c))) → SRel h ρ' sv c →
        RowsR h ρ' w d t xs ((i, true, sv) :: hs') hd heads (b :: (Fs.set i.toNat []).flatten) := by
      intro ρ' sv hs' q1 q2 q3 q4 q5
      refine .inr ⟨b, cap, cur, el, Fs.set i.toNat [], e1, rfl, by simp [e3], e4, e5, e6, e7, e8, fun j y hj => ?_⟩
      obtain ⟨c', vi', Fi', p1, p2, p3, p4, p4', p5⟩ := e9 j y hj
      rw [hole_cons, taken_cons]
      by_cases hij : i = (j : Int)
      · have hjj : j = i.toNat := by omega
        subst hjj
        have : c' = c := by rw [g1] at p1; exact (Option.some.inj p1).symm
        subst this
        refine ⟨c', vi', [], p1, p2, ?_, ?_, p4', ?_⟩
        · rw [List.getElem?_set_self (List.getElem?_eq_some_iff.1 g3).1]
        · rw [if_pos hij]; exact q5
        · rw [if_pos (by simp [hit])]
      · refine ⟨c', vi', Fi', p1, p2, ?_, ?_, p4', ?_⟩
        · rw [List.getElem?_set_ne (by omega)]; exact p3
        · rw [if_neg hij]
          cases hh : hole hs' j with
          | none => rw [q2 j hh] at p4; exact p4
          | some sv' =>
            obtain ⟨q, hq, himp⟩ := q4 j sv' c' hh
            rw [hq] at p4
            exact himp p4
        · have : (i == (j : Int)) = false := by simpa using hij
          simp only [this, Bool.and_false, Bool.false_or]
          rw [q3]; exact p5
    have hgh : Ghost (ρ s) (mkR hd heads (b :: (Fs.set i.toNat []).flatten)) := by
      rw [hρ]; exact ⟨fun _ e => (by cases e), rfl, by rw [headsOf_mkR, headsOf_mkR]⟩
    have hnd1 : (b :: (Fs.set i.toNat []).flatten).Nodup := List.nodup_cons.2 ⟨fun hb => hbF (flatten_set_nil _ _ _ hb), k1⟩
    have hown1 : ∀ k ∈ (b :: (Fs.set i.toNat []).flatten), C.own k ∧ h k = none := by
      intro k hk
      refine hF2 k ?_
      rw [e2]
      rcases List.mem_cons.1 hk with rfl | hk
      · simp
      · exact List.mem_cons_of_mem _ (flatten_set_nil _ _ _ hk)
    have hr1 := hr.shrink (o' := .rows d t xs ((i, true, .any) :: hs)) hg hns hgh
      (fun k hk => by
        rw [hρ]; refine blk_mkR.2 ?_
        rw [e2]
        rcases List.mem_cons.1 (blk_mkR.1 hk) with rfl | hk
        · simp
        · exact List.mem_cons_of_mem _ (flatten_set_nil _ _ _ hk))
      ⟨hd, heads, _, rfl, hnd1, hown1, hleft _ .any hs hne (fun _ e => e) (fun _ => rfl) (fun j sv' c hh => ⟨sv', hh, fun e => srel_ghost hgh e⟩) trivial⟩
    obtain ⟨rn, r1, r2, r3, r4⟩ := row_orel (own := C.own) g5 hro k2 (fun k hk => hF2 k (hFi k hk))
    have hr2 := hr1.fresh_name n hnn rn ob w rfl rfl rfl (Nat.le_refl _) none (fun _ e => by cases e) (fun _ _ _ => rfl) (r4 _)
      (fun k hk s' o' hs' hg' hb' => by
        have hk := (r3 k).1 hk
        rw [get_put] at hg'
        by_cases hss : s = s'
        · subst hss
          have : Blk (mkR hd heads (b :: (Fs.set i.toNat []).flatten)) k := by simpa [upd] using hb'
          rcases List.mem_cons.1 (blk_mkR.1 this) with rfl | hk'
          · exact hbF (List.mem_flatten.2 ⟨Fi, List.mem_of_getElem? g3, hk⟩)
          · exact k3 k hk hk'
        · rw [if_neg hss] at hg'
          have hb' : Blk (ρ s') k := by simpa [upd, Ne.symm hss] using hb'
          exact hr.apart s s' _ o' k hss hg hg' (by rw [hρ]; exact blk_mkR.2 (hFi k hk)) hb')
      (fun hlt' k hk => hr.low s _ k hg (hlt hlt') (by rw [hρ]; exact blk_mkR.2 (hFi k ((r3 k).1 hk))))
    have hgs2 : get (newL n ob (put L s (.rows d t xs ((i, true, .any) :: hs)))) s = some (.rows d t xs (mapHs (SV.kill n) ((i, true, .any) :: hs))) := by
      rw [get_newL, if_neg hne2, get_put, if_pos rfl]; rfl
    have hρs : upd (upd ρ s (mkR hd heads (b :: (Fs.set i.toNat []).flatten))) n rn s = mkR hd heads (b :: (Fs.set i.toNat []).flatten) := by
      simp [upd, Ne.symm hne2]
    have hr3 := hr2.reput (o' := .rows d t xs ((i, true, .slc n) :: mapHs (SV.kill n) hs)) hgs2 (by
      rw [hρs]
      refine ⟨hd, heads, _, rfl, hnd1, hown1, hleft _ (.slc n) _ ?_ ?_ (fun j => taken_map) ?_ ?_⟩
      · intro e he
        obtain ⟨e', he', rfl⟩ := List.mem_map.1 he
        exact hne e' he'
      · intro j hj
        rw [hole_map] at hj
        cases hh : hole hs j with
        | none => rfl
        | some q => rw [hh] at hj; cases hj
      · intro j sv' c' hj
        rw [hole_map] at hj
        obtain ⟨q, hq, rfl⟩ := Option.map_eq_some_iff.1 hj
        exact ⟨q, hq, fun e => (srel_ghost hgh e).kill⟩
      · exact ⟨by simp [upd, r1], r2⟩)
    refine ⟨h, _, hr3.less fun k o hk => ?_⟩
    rw [get_put] at hk ⊢
    by_cases hsk : s = k
    · rw [if_pos hsk] at hk ⊢; exact hk
    · rw [if_neg hsk] at hk ⊢
      rw [get_newL] at hk ⊢
      by_cases hnk : n = k
      · rw [if_pos hnk] at hk ⊢; exact hk
      · rw [if_neg hnk] at hk ⊢
        rw [get_put, if_neg hsk]; exact hk
end
end Go.Sl

/- Slices of slices of our own, continued: rows given back, two rows put in each other's place, made data, begun with nil. -/
namespace Go.Sl
open Go

def SV.unhd (s : Nat) : SV → SV
  | .rhd r i => if r = s then .any else .rhd r i
  | x => x
def AV.unhd (s : Nat) : AV → AV
  | .one x => .one (x.unhd s)
  | .agg cs => .agg (cs.map (SV.unhd s))
  | .tup cs => .tup (cs.map (SV.unhd s))
  | .mb g b x => .mb g b (x.unhd s)
def LObj.unhd (s : Nat) : LObj → LObj
  | .cells cs => .cells (cs.map (SV.unhd s))
  | .rows d t xs hs => .rows d t xs (mapHs (SV.unhd s) hs)
  | o => o

section
variable {C : Ctx} {h : Heap} {ρ : Nat → Value} {fr : Fr} {L : LL} {a : Act} {w : World}

theorem srel_unhd {s : Nat} {r' : Value} (h1 : ∀ ad, ρ s ≠ .pointer ad) (h2 : hdrOf r' = hdrOf (ρ s)) {x : SV} {v : Value} (e : SRel h ρ x v) : SRel h (upd ρ s r') (x.unhd s) v := by
  have hh : ∀ t, hdrOf (upd ρ s r' t) = hdrOf (ρ t) := by
    intro t; unfold upd; split
    · rename_i e; subst e; exact h2
    · rfl
  have hp : ∀ t ad, ρ t = .pointer ad → upd ρ s r' t = .pointer ad := by
    intro t ad ht; unfold upd; split
    · rename_i e; subst e; exact (h1 ad ht).elim
    · exact ht
  cases x <;> try exact e
  case ptr t o =>
    obtain ⟨b, hb, rfl⟩ := e
    exact ⟨b, hp _ _ hb, rfl⟩
  case slc t => simp only [SV.unhd, SRel] at e ⊢; rw [hh]; exact e
  case eptr t z i o =>
    obtain ⟨b, hb, hi, rfl⟩ := e
    refine ⟨b, ?_, hi, rfl⟩
    rcases hb with hb | hb
    · exact .inl (hp _ _ hb)
    · right; rw [hh]; exact hb
  case fn f caps =>
    obtain ⟨cs, rfl, hall⟩ := e
    refine ⟨cs, rfl, ?_⟩
    induction hall with
    | nil => exact .nil
    | cons h1 _ ih => obtain ⟨b, hb, rfl⟩ := h1; exact .cons ⟨b, hp _ _ hb, rfl⟩ ih
  case sub t z i j => simp only [SV.unhd, SRel] at e ⊢; rw [hh]; exact e
  case rhd t i =>
    simp only [SV.unhd]
    split
    · trivial
    · rename_i hts
      simp only [SRel] at e ⊢
      have : upd ρ s r' t = ρ t := by simp [upd, hts]
      rw [this]; exact e
theorem all2_unhd {s : Nat} {r' : Value} (h1 : ∀ ad, ρ s ≠ .pointer ad) (h2 : hdrOf r' = hdrOf (ρ s)) {l : List SV} {m : List Value} (e : All2 (SRel h ρ) l m) : All2 (SRel h (upd ρ s r')) (l.map (SV.unhd s)) m := by
  induction e with
  | nil => exact .nil
  | cons e1 _ ih => exact .cons (srel_unhd h1 h2 e1) ih
theorem vrel_unhd {s : Nat} {r' : Value} (h1 : ∀ ad, ρ s ≠ .pointer ad) (h2 : hdrOf r' = hdrOf (ρ s)) {tm : Array Value} {x : AV} {v : Value} (e : VRel h ρ tm x v) : VRel h (upd ρ s r') tm (x.unhd s) v := by
  cases x
  · exact srel_unhd h1 h2 e
  · obtain ⟨vs, rfl, hl⟩ := e; exact ⟨vs, rfl, all2_unhd h1 h2 hl⟩
  · obtain ⟨vs, rfl, hl⟩ := e; exact ⟨vs, rfl, all2_unhd h1 h2 hl⟩
  · exact fun ht => srel_unhd h1 h2 (e ht)
theorem orel_unhd {own : Nat → Prop} {s : Nat} {r' q : Value} (h1 : ∀ ad, ρ s ≠ .pointer ad) (h2 : hdrOf r' = hdrOf (ρ s)) {o : LObj} (e : ORel own h ρ w q o) : ORel own h (upd ρ s r') w q (o.unhd s) := by
  cases o <;> try exact e
  case cells cs =>
    obtain ⟨b, cur, el, rfl, h1', h2', h3, h4, h5⟩ := e
    exact ⟨b, cur, el, rfl, h1', h2', h3, all2_unhd h1 h2 h4, h5⟩
  case rows d t xs hs =>
    obtain ⟨hd, heads, F, h1', h2', h3, h4⟩ := e
    exact ⟨hd, heads, F, h1', h2', h3, h4.map _ (fun _ _ _ e => e) (fun _ _ e => srel_unhd h1 h2 e) (fun _ _ => rfl)⟩
/-- what a name stands for is seen anew -/
theorem RelH.regh (hr : RelH C h ρ fr L a w) {s : Nat} {o os : LObj} {r' : Value} {L' : LL} (hs : get L s = some o) (hn : nameOk s = true) (h1 : ∀ ad, ρ s ≠ .pointer ad) (h2 : hdrOf r' = hdrOf (ρ s))
    (hL : ∀ k o', get L' k = some o' → (k = s ∧ o' = os) ∨ (k ≠ s ∧ ∃ z, get L k = some z ∧ o' = z.unhd s)) (ho : ORel C.own h (upd ρ s r') w r' os)
    (hb : ∀ b, Blk r' b → ∃ k z, get L k = some z ∧ Blk (ρ k) b ∧ (k = s ∨ get L' k = none) ∧ (s < 1000 → k < 1000)) : RelH C h (upd ρ s r') (mapv (AV.unhd s) fr) L' a w where
  size := hr.size
  defers := hr.defers
  fr := fun t av ht => by
    rw [get_mapv] at ht
    obtain ⟨y, hy, rfl⟩ := Option.map_eq_some_iff.1 ht
    exact ⟨(hr.fr t y hy).1, vrel_unhd h1 h2 (hr.fr t y hy).2⟩
  heap := hr.heap
  objs := fun t x hx => by
    rcases hL t x hx with ⟨rfl, rfl⟩ | ⟨hts, z, hz, rfl⟩
    · simpa [upd] using ho
    · have : upd ρ s r' t = ρ t := by simp [upd, hts]
      rw [this]
      exact orel_unhd h1 h2 (hr.objs t z hz)
  apart := fun t t' x x' b hne hx hx' hbt hbt' => by
    have key : ∀ q q' y y', q ≠ q' → get L' q = some y → get L' q' = some y' → q = s → Blk (upd ρ s r' q) b → ¬ Blk (upd ρ s r' q') b := by
      intro q q' y y' hqq hy hy' hqs hbq hbq'
      subst hqs
      have hq's : q' ≠ q := fun e => hqq e.symm
      have e1 : upd ρ q r' q = r' := by simp [upd]
      have e2 : upd ρ q r' q' = ρ q' := by simp [upd, hq's]
      rw [e1] at hbq
      rw [e2] at hbq'
      obtain ⟨k, z, hz, hbk, hk, _⟩ := hb b hbq
      rcases hL q' y' hy' with ⟨e, _⟩ | ⟨_, z', hz', _⟩
      · exact hq's e
      · have hkq : k ≠ q' := by
          rcases hk with rfl | hk
          · exact fun e => hq's e.symm
          · rintro rfl; rw [hk] at hy'; cases hy'
        exact hr.apart k q' z z' b hkq hz hz' hbk hbq'
    by_cases hts : t = s
    · exact key t t' x x' hne hx hx' hts hbt hbt'
    · by_cases hts' : t' = s
      · exact key t' t x' x (Ne.symm hne) hx' hx hts' hbt' hbt
      · rcases hL t x hx with ⟨e, _⟩ | ⟨_, z, hz, _⟩
        · exact hts e
        · rcases hL t' x' hx' with ⟨e, _⟩ | ⟨_, z', hz', _⟩
          · exact hts' e
          · have e1 : upd ρ s r' t = ρ t := by simp [upd, hts]
            have e2 : upd ρ s r' t' = ρ t' := by simp [upd, hts']
            rw [e1] at hbt
            rw [e2] at hbt'
            exact hr.apart t t' z z' b hne hz hz' hbt hbt'
  ext := hr.ext
  fresh := hr.fresh
  os := hr.os
  tape := hr.tape
  output := hr.output
  grow := hr.grow
  frame := hr.frame
  xs := hr.xs
  pin := fun t v hv => by
    have hts : t ≠ s := by rintro rfl; rw [hr.pinlo _ hn] at hv; cases hv
    simp [upd, hts, hr.pin t v hv]
  pinlo := hr.pinlo
  low := fun t x b hx hlt hbt => by
    rcases hL t x hx with ⟨rfl, rfl⟩ | ⟨hts, z, hz, rfl⟩
    · obtain ⟨k, z, hz, hbk, _, hlo⟩ := hb b (by simpa [upd] using hbt)
      exact hr.low k z b hz (hlo hlt) hbk
    · exact hr.low t z b hz hlt (by simpa [upd, hts] using hbt)

theorem orel_row {own : Nat → Prop} {d : Nat} {t : Ty} {ob : LObj} {x : t.den} {r : Value} (ho : rowOf d t ob = some x) (e : ORel own h ρ w r ob) : ∃ F, TreeR h w d t x (hdrOf r) F ∧ F.Nodup ∧ (∀ b, Blk r b ↔ b ∈ F) ∧ ∀ b ∈ F, own b ∧ h b = none := by
  unfold rowOf at ho
  split at ho
  · rename_i u y
    split at ho
    · rename_i hc
      obtain ⟨rfl, rfl⟩ := hc
      obtain rfl := Option.some.inj ho
      rcases e with ⟨rfl, rfl⟩ | ⟨b, cap, cur, el, rfl, h1, h2, h3, h4, h5, h6, h7⟩
      · exact ⟨[], .inl ⟨rfl, rfl, rfl⟩, List.nodup_nil, fun b => by simp [Blk], by simp⟩
      · exact ⟨[b], .inr ⟨b, cap, cur, el, rfl, rfl, h3, h4, h5, h6, h7⟩, by simp, fun b' => by simp [Blk, eq_comm], by simp [h1, h2]⟩
    · cases ho
  · rename_i d' u y
    split at ho
    · rename_i hc
      obtain ⟨rfl, rfl⟩ := hc
      obtain rfl := Option.some.inj ho
      obtain ⟨hd, heads, F, rfl, h1, h2, h3⟩ := e
      exact ⟨F, by rw [hdrOf_mkR]; exact h3.tree, h1, fun b => blk_mkR, h2⟩
    · cases ho
  · cases ho

/-! ### a row given back -/
def firstSame : List (Int × Bool × SV) → List Bool → Option SV
  | e :: hs, b :: same => if b then some e.2.2 else firstSame hs same
  | _, _ => none
def restHs : List (Int × Bool × SV) → List Bool → List (Int × Bool × SV)
  | e :: hs, b :: same => if b then restHs hs same else e :: restHs hs same
  | _, _ => []
def keysOk (i : Int) : List (Int × Bool × SV) → List Bool → List Prop
  | e :: hs, b :: same => (if b then e.1 = i else e.1 ≠ i) :: keysOk i hs same
  | _, _ => []
def anyTaken : List (Int × Bool × SV) → List Bool → Bool
  | e :: hs, b :: same => (b && e.2.1) || anyTaken hs same
  | _, _ => false
theorem keys_at {i : Int} : ∀ {hs : List (Int × Bool × SV)} {same : List Bool} (hlen : hs.length = same.length) (hk : ∀ p ∈ keysOk i hs same, p) (j : Nat),
    (i = (j : Int) → (∀ sv, firstSame hs same = some sv → ∃ b, hole hs j = some (b, sv)) ∧ hole (restHs hs same) j = none ∧ taken (restHs hs same) j = false ∧ (anyTaken hs same = true → taken hs j = true)) ∧
    (i ≠ (j : Int) → hole (restHs hs same) j = hole hs j ∧ taken (restHs hs same) j = taken hs j)
  | [], [], _, _, j => ⟨fun _ => ⟨fun sv e => (by cases e), rfl, rfl, fun e => (by cases e)⟩, fun _ => ⟨rfl, rfl⟩⟩
  | e :: hs, b :: same, hlen, hk, j => by
    have ih := keys_at (i := i) (hs := hs) (same := same) (by simpa using hlen) (fun p hp => hk p (by simp [keysOk, hp])) j
    have h0 := hk (if b then e.1 = i else e.1 ≠ i) (by simp [keysOk])
    cases b with
    | true =>
      simp only [if_true] at h0
      refine ⟨fun hij => ?_, fun hij => ?_⟩
      · obtain ⟨_, q2, q3, _⟩ := ih.1 hij
        refine ⟨fun sv hsv => ?_, ?_, ?_, fun _ => ?_⟩
        · simp only [firstSame, if_true, Option.some.injEq] at hsv
          subst hsv
          exact ⟨e.2.1, by rw [hole_cons, if_pos (h0.trans hij)]⟩
        · simpa [restHs] using q2
        · simpa [restHs] using q3
        · rw [taken_cons]
          cases he : e.2.1 with
          | true => simp [h0, hij]
          | false =>
            rename_i hany
            simp only [anyTaken, he, Bool.and_false, Bool.false_or] at hany
            simp [(ih.1 hij).2.2.2 hany]
      · obtain ⟨q1, q2⟩ := ih.2 hij
        have hne : e.1 ≠ (j : Int) := fun e' => hij (h0.symm.trans e')
        rw [hole_cons, if_neg hne, taken_cons]
        simp only [restHs, if_true]
        refine ⟨q1, ?_⟩
        have : (e.1 == (j : Int)) = false := by simpa using hne
        simp [this, q2]
    | false =>
      simp only [Bool.false_eq_true, if_false] at h0
      refine ⟨fun hij => ?_, fun hij => ?_⟩
      · obtain ⟨q1, q2, q3, q4⟩ := ih.1 hij
        have hne : e.1 ≠ (j : Int) := fun e' => h0 (e'.trans hij.symm)
        have hb : (e.1 == (j : Int)) = false := by simpa using hne
        refine ⟨fun sv hsv => ?_, ?_, ?_, fun hany => ?_⟩
        · simp only [firstSame, Bool.false_eq_true, if_false] at hsv
          obtain ⟨b, hb'⟩ := q1 sv hsv
          exact ⟨b, by rw [hole_cons, if_neg hne]; exact hb'⟩
        · simp only [restHs, Bool.false_eq_true, if_false]; rw [hole_cons, if_neg hne]; exact q2
        · simp only [restHs, Bool.false_eq_true, if_false]; rw [taken_cons]; simp [hb, q3]
        · rw [taken_cons]
          simp only [anyTaken, Bool.false_and, Bool.false_or] at hany
          simp [q4 hany]
      · obtain ⟨q1, q2⟩ := ih.2 hij
        simp only [restHs, Bool.false_eq_true, if_false]
        rw [hole_cons, hole_cons, taken_cons, taken_cons, q1, q2]
        exact ⟨rfl, rfl⟩
  | [], _ :: _, hlen, _, _ => by simp at hlen
  | _ :: _, [], hlen, _, _ => by simp at hlen

theorem Rel.give {s n d : Nat} {t : Ty} {xs : List t.den} {hs : List (Int × Bool × SV)} {i : Int} {x : t.den} {ob : LObj} {same : List Bool} (hr : Rel C fr L a w) (hg : get L s = some (.rows d t xs hs)) (hgn : get L n = some ob)
    (hro : rowOf d t ob = some x) (hne : n ≠ s) (hns : nameOk s = true) (hlt : s < 1000 → n < 1000) (hin : InR i (List.length xs)) (hlen : hs.length = same.length) (hk : ∀ p ∈ keysOk i hs same, p) (hf : firstSame hs same = some (.slc n)) (ht : anyTaken hs same = true) :
    Rel C (mapv (AV.unhd s) fr) (put (mapv (LObj.unhd s) (del L n)) s (.rows d t (xs.set i.toNat x) (mapHs (SV.unhd s) (restHs hs same)))) a w := by
  obtain ⟨h, ρ, hr⟩ := hr
  have hi0 := hin.1
  have hit : (i.toNat : Int) = i := by omega
  have hil := inR_lt hin
  obtain ⟨hd, heads, F, hρ, hF1, hF2, hR⟩ := hr.objs s _ hg
  rcases hR with ⟨_, rfl, _⟩ | ⟨b, cap, cur, el, Fs, e1, e2, e3, e4, e5, e6, e7, e8, e9⟩
  · simp at hil
  · obtain ⟨Fn, n1, n2, n3, n4⟩ := orel_row hro (hr.objs n _ hgn)
    obtain ⟨c, vi, Fi, g1, g2, g3, g4, g4', g5⟩ := e9 i.toNat _ (List.getElem?_eq_getElem hil)
    obtain ⟨q1, q2, q3, q4⟩ := (keys_at hlen hk i.toNat).1 hit.symm
    obtain ⟨bb, hh⟩ := q1 _ hf
    rw [hh] at g4
    have hc : c = hdrOf (ρ n) := g4.1
    rw [if_pos (q4 ht)] at g5
    subst g5
    rw [e2] at hF1
    obtain ⟨hbF, hFn⟩ := nodup_mem_cons hF1
    have hdis : ∀ k ∈ Fn, k ∉ F := fun k hk hkF => hr.apart n s _ _ k hne hgn hg ((n3 k).2 hk) (by rw [hρ]; exact blk_mkR.2 hkF)
    obtain ⟨f1, f2⟩ := flatten_fill Fs i.toNat Fn hFn g3 n2 (fun k hk hk' => hdis k hk (by rw [e2]; exact List.mem_cons_of_mem _ hk'))
    have hnd : (b :: (Fs.set i.toNat Fn).flatten).Nodup := List.nodup_cons.2 ⟨fun hb => by
      rcases (f2 b).1 hb with hb | hb
      · exact hdis b hb (by rw [e2]; simp)
      · exact hbF hb, f1⟩
    have h1 : ∀ ad, ρ s ≠ .pointer ad := by intro ad; rw [hρ]; exact fun e => by cases e
    have h2 : hdrOf (mkR hd (heads.set i.toNat c) (b :: (Fs.set i.toNat Fn).flatten)) = hdrOf (ρ s) := by rw [hρ, hdrOf_mkR, hdrOf_mkR]
    refine ⟨h, _, hr.regh (os := .rows d t (xs.set i.toNat x) (mapHs (SV.unhd s) (restHs hs same))) hg hns h1 h2 (fun k o' hk' => ?_) ⟨hd, heads.set i.toNat c, b :: (Fs.set i.toNat Fn).flatten, rfl, hnd, fun k hk' => ?_, .inr ⟨b, cap, cur, el, Fs.set i.toNat Fn, by rw [List.length_set]; exact e1, rfl, by simp [e3], by simp [e4], e5, e6, by simpa using e7, by simpa using e8, fun j y hj => ?_⟩⟩ (fun k hk' => ?_)⟩
    · rw [get_put] at hk'
      by_cases hsk : s = k
      · rw [if_pos hsk] at hk'; exact .inl ⟨hsk.symm, (Option.some.inj hk').symm⟩
      · rw [if_neg hsk, get_mapv, get_del] at hk'
        split at hk'
        · cases hk'
        · obtain ⟨z, hz, rfl⟩ := Option.map_eq_some_iff.1 hk'
          exact .inr ⟨Ne.symm hsk, z, hz, rfl⟩
    · rcases List.mem_cons.1 hk' with rfl | hk'
      · exact hF2 _ (by rw [e2]; simp)
      · rcases (f2 k).1 hk' with hk' | hk'
        · exact n4 k hk'
        · exact hF2 k (by rw [e2]; exact List.mem_cons_of_mem _ hk')
    · rw [hole_map, taken_map]
      by_cases hij : i = (j : Int)
      · have hjj : j = i.toNat := by omega
        subst hjj
        rw [List.getElem?_set_self hil] at hj
        obtain rfl := Option.some.inj hj
        refine ⟨c, c, Fn, g1, by rw [List.getElem?_set_self (by omega)], by rw [List.getElem?_set_self (by omega)], by rw [q2]; rfl, g4', ?_⟩
        rw [if_neg (by rw [q3]; simp), hc]
        exact n1
      · rw [List.getElem?_set_ne (by omega)] at hj
        obtain ⟨c', vi', Fi', p1, p2, p3, p4, p4', p5⟩ := e9 j y hj
        obtain ⟨r1, r2⟩ := (keys_at hlen hk j).2 hij
        refine ⟨c', vi', Fi', p1, by rw [List.getElem?_set_ne (by omega)]; exact p2, by rw [List.getElem?_set_ne (by omega)]; exact p3, ?_, p4', by rw [r2]; exact p5⟩
        rw [r1]
        cases hq : hole hs j with
        | none => rw [hq] at p4; exact p4
        | some sv => rw [hq] at p4; exact srel_unhd h1 h2 p4
    · rcases List.mem_cons.1 (blk_mkR.1 hk') with rfl | hk'
      · exact ⟨s, _, hg, by rw [hρ, e2]; exact blk_mkR.2 (by simp), .inl rfl, fun e => e⟩
      · rcases (f2 k).1 hk' with hk' | hk'
        · exact ⟨n, _, hgn, (n3 k).2 hk', .inr (by rw [get_put, if_neg hne.symm, get_mapv, get_del, if_pos rfl]; rfl), hlt⟩
        · exact ⟨s, _, hg, by rw [hρ, e2]; exact blk_mkR.2 (List.mem_cons_of_mem _ hk'), .inl rfl, fun e => e⟩

/-! ### two rows in each other's place -/
theorem swap_perm {α : Type} (l : List α) (i j : Nat) (x y : α) (hi : l[i]? = some x) (hj : l[j]? = some y) : ((l.set i y).set j x).Perm l := by
  have h1 := (List.getElem?_eq_some_iff.1 hi).1
  have h2 := (List.getElem?_eq_some_iff.1 hj).1
  have := Array.swap_perm (xs := l.toArray) (i := i) (j := j) (by simpa using h1) (by simpa using h2)
  have := Array.perm_iff_toList_perm.1 this
  simp only [Array.swap, Array.set, List.toList_toArray] at this
  have e1 : l.toArray[j]'(by simpa using h2) = y := by
    rw [List.getElem?_eq_getElem h2] at hj; simpa using hj
  have e2 : l.toArray[i]'(by simpa using h1) = x := by
    rw [List.getElem?_eq_getElem h1] at hi; simpa using hi
  simpa [e1, e2] using this
theorem swap_get {α : Type} (l : List α) (i j k : Nat) (x y : α) (hi : l[i]? = some x) (hj : l[j]? = some y) : ((l.set i y).set j x)[k]? = if k = j then some x else if k = i then some y else l[k]? := by
  have h1 := (List.getElem?_eq_some_iff.1 hi).1
  have h2 := (List.getElem?_eq_some_iff.1 hj).1
  by_cases hkj : k = j
  · subst hkj; rw [List.getElem?_set_self (by simpa using h2), if_pos rfl]
  · rw [List.getElem?_set_ne (Ne.symm hkj), if_neg hkj]
    by_cases hki : k = i
    · subst hki; rw [List.getElem?_set_self h1, if_pos rfl]
    · rw [List.getElem?_set_ne (Ne.symm hki), if_neg hki]
theorem Rel.swap {s d : Nat} {t : Ty} {xs : List t.den} {i j : Int} {x y : t.den} {tb1 tb2 : Bool} {kb ka jb ja : Int} (hr : Rel C fr L a w) (hg : get L s = some (.rows d t xs [(kb, false, .rhd s ja), (ka, false, .rhd s jb)]))
    (hns : nameOk s = true) (hk1 : kb = j) (hk2 : ja = i) (hk3 : ka = i) (hk4 : jb = j) (hi : Idx xs i x) (hj : Idx xs j y) :
    Rel C (mapv (AV.unhd s) fr) (put (mapv (LObj.unhd s) L) s (.rows d t ((xs.set i.toNat y).set j.toNat x) [])) a w := by
  obtain ⟨h, ρ, hr⟩ := hr
  subst hk1 hk2 hk3 hk4
  obtain ⟨hi0, hix⟩ := hi
  obtain ⟨hj0, hjx⟩ := hj
  have hit : (ka.toNat : Int) = ka := by omega
  have hjt : (jb.toNat : Int) = jb := by omega
  obtain ⟨hd, heads, F, hρ, hF1, hF2, hR⟩ := hr.objs s _ hg
  rcases hR with ⟨_, rfl, _⟩ | ⟨b, cap, cur, el, Fs, e1, e2, e3, e4, e5, e6, e7, e8, e9⟩
  · simp at hix
  · obtain ⟨ci, vi, Fi, g1, g2, g3, g4, g4', g5⟩ := e9 _ _ hix
    obtain ⟨cj, vj, Fj, p1, p2, p3, p4, p4', p5⟩ := e9 _ _ hjx
    have nt : ∀ k, taken [(jb, false, SV.rhd s ka), (ka, false, SV.rhd s jb)] k = false := by intro k; simp [taken]
    rw [nt, if_neg (by simp)] at g5 p5
    rw [e2] at hF1
    obtain ⟨hbF, hFn⟩ := nodup_mem_cons hF1
    have hperm := (swap_perm Fs ka.toNat jb.toNat Fi Fj g3 p3).flatten
    have hmem : ∀ k, k ∈ ((Fs.set ka.toNat Fj).set jb.toNat Fi).flatten ↔ k ∈ Fs.flatten := fun k => hperm.mem_iff
    have hheads : ∀ k v, SRel h ρ (.rhd s k) v → heads[k.toNat]? = some v := by
      intro k v e
      have := e.2.1
      rw [hρ, headsOf_mkR] at this
      exact this
    have h1 : ∀ ad, ρ s ≠ .pointer ad := by intro ad; rw [hρ]; exact fun e => by cases e
    have h2 : hdrOf (mkR hd ((heads.set ka.toNat vj).set jb.toNat vi) (b :: ((Fs.set ka.toNat Fj).set jb.toNat Fi).flatten)) = hdrOf (ρ s) := by rw [hρ, hdrOf_mkR, hdrOf_mkR]
    refine ⟨h, _, hr.regh (os := .rows d t ((xs.set ka.toNat y).set jb.toNat x) []) hg hns h1 h2 (fun k o' hk' => ?_) ⟨hd, _, _, rfl, ?_, fun k hk' => ?_, .inr ⟨b, cap, cur, el, (Fs.set ka.toNat Fj).set jb.toNat Fi, by simpa using e1, rfl, by simp [e3], by simp [e4], e5, e6, by simpa using e7, by simpa using e8, fun k z hz => ?_⟩⟩ (fun k hk' => ?_)⟩
    · rw [get_put] at hk'
      by_cases hsk : s = k
      · rw [if_pos hsk] at hk'; exact .inl ⟨hsk.symm, (Option.some.inj hk').symm⟩
      · rw [if_neg hsk, get_mapv] at hk'
        obtain ⟨z, hz, rfl⟩ := Option.map_eq_some_iff.1 hk'
        exact .inr ⟨Ne.symm hsk, z, hz, rfl⟩
    · exact List.nodup_cons.2 ⟨fun hb => hbF ((hmem b).1 hb), hperm.nodup_iff.2 hFn⟩
    · refine hF2 k ?_
      rw [e2]
      rcases List.mem_cons.1 hk' with rfl | hk'
      · simp
      · exact List.mem_cons_of_mem _ ((hmem k).1 hk')
    · rw [swap_get xs _ _ _ _ _ hix hjx] at hz
      rw [swap_get heads _ _ _ _ _ g2 p2, swap_get Fs _ _ _ _ _ g3 p3]
      have fin : ∀ c vv FF, cur[k]? = some c → c = vv → c.oneCell' = true → TreeR h w d t z vv FF → ∃ c vi Fi, cur[k]? = some c ∧ (some vv : Option Value) = some vi ∧ (some FF : Option (List Nat)) = some Fi ∧ (match hole [] k with | some sv => SRel h (upd ρ s (mkR hd ((heads.set ka.toNat vj).set jb.toNat vi) (b :: ((Fs.set ka.toNat Fj).set jb.toNat Fi).flatten))) sv.2 c | none => c = vi) ∧ c.oneCell' = true ∧ (if taken [] k then Fi = [] else TreeR h w d t z vi Fi) := by
        intro c vv FF q1 q2 q3 q4
        exact ⟨c, vv, FF, q1, rfl, rfl, q2, q3, by rw [if_neg (by simp [taken])]; exact q4⟩
      by_cases hkj : k = jb.toNat
      · subst hkj
        rw [if_pos rfl] at hz ⊢
        obtain rfl := Option.some.inj hz
        rw [hole_cons, if_pos hjt.symm] at p4
        have hv := hheads _ _ p4
        rw [g2] at hv
        obtain rfl := Option.some.inj hv
        rw [if_pos rfl]
        exact ⟨_, _, _, p1, rfl, rfl, rfl, p4', by rw [if_neg (by simp [taken])]; exact g5⟩
      · rw [if_neg hkj] at hz ⊢
        rw [if_neg hkj]
        have hkn : ¬ (jb = (k : Int)) := by omega
        by_cases hki : k = ka.toNat
        · subst hki
          rw [if_pos rfl] at hz ⊢
          obtain rfl := Option.some.inj hz
          rw [hole_cons, if_neg hkn, hole_cons, if_pos hit.symm] at g4
          have hv := hheads _ _ g4
          rw [p2] at hv
          obtain rfl := Option.some.inj hv
          rw [if_pos rfl]
          exact ⟨_, _, _, g1, rfl, rfl, rfl, g4', by rw [if_neg (by simp [taken])]; exact p5⟩
        · rw [if_neg hki] at hz ⊢
          rw [if_neg hki]
          obtain ⟨c', v', F', r1, r2, r3, r4, r4', r5⟩ := e9 k z hz
          have hkm : ¬ (ka = (k : Int)) := by omega
          rw [hole_cons, if_neg hkn, hole_cons, if_neg hkm] at r4
          rw [nt, if_neg (by simp)] at r5
          exact ⟨c', v', F', r1, r2, r3, r4, r4', by rw [if_neg (by simp [taken])]; exact r5⟩
    · refine ⟨s, _, hg, ?_, .inl rfl, fun e => e⟩
      rw [hρ, e2]
      refine blk_mkR.2 ?_
      rcases List.mem_cons.1 (blk_mkR.1 hk') with rfl | hk'
      · simp
      · exact List.mem_cons_of_mem _ ((hmem k).1 hk')
end
end Go.Sl

/- Slices of slices of our own: the rules for printed proofs. -/
namespace Go.Sl
open Go

def gT (o : Option (Fr × LL × Prop)) (fr : Fr) (L : LL) : Fr × LL := match o with | some r => (r.1, r.2.1) | none => (fr, L)

section
variable {C : Ctx} {fr : Fr} {L : LL} {a : Act} {w : World}

theorem Rel.freezeR {s : Nat} {t : Ty} {xs : List t.den} {o₀ : LObj} (hr : Rel C fr L a w) (hs : get L s = some o₀) (ho₀ : o₀.seqd = some ⟨t, xs⟩) (hlt : s < 1000) :
    Rel C (mapv (AV.frz s t xs) fr) (mapv (LObj.frz s t xs) (del L s)) a w := by
  obtain ⟨h, ρ, hr⟩ := hr
  have hlow : ∀ b, Blk (ρ s) b → C.w0.heap.size ≤ b := fun b hb => hr.low s _ b hs hlt hb
  obtain ⟨h', hext, hheap, hrep0, hnew0⟩ := hr.borrow [s]
  have hrep := hrep0 s t xs o₀ (by simp) hs ho₀
  have hnew : ∀ b, h b = none → h' b ≠ none → Blk (ρ s) b := by
    intro b h0 h1
    obtain ⟨s', o', hm, _, hb⟩ := hnew0 b h0 h1
    simp only [List.mem_singleton] at hm
    subst hm; exact hb
  refine ⟨h', ρ, ?_⟩
  have getdel : ∀ t' o', get (mapv (LObj.frz s t xs) (del L s)) t' = some o' → s ≠ t' ∧ ∃ o, get L t' = some o ∧ o' = o.frz s t xs := by
    intro t' o' ho'
    rw [get_mapv, get_del] at ho'
    split at ho'
    · simp at ho'
    · rename_i hne
      obtain ⟨o, ho, rfl⟩ := Option.map_eq_some_iff.1 ho'
      exact ⟨hne, o, ho, rfl⟩
  refine ⟨hr.size, hr.defers, ?_, hheap, ?_, ?_, hr.ext.trans hext, ?_, hr.os, hr.tape, hr.output, hr.grow, hr.frame, hr.xs, hr.pin, hr.pinlo, ?_⟩
  · intro t' av ht
    rw [get_mapv] at ht
    obtain ⟨y, hy, rfl⟩ := Option.map_eq_some_iff.1 ht
    obtain ⟨hlt', hrel⟩ := hr.fr t' y hy
    refine ⟨hlt', ?_⟩
    cases y with
    | one x => exact SRel.frz hext hrep hrel
    | agg cs =>
      obtain ⟨vs, hv, hall⟩ := hrel
      exact ⟨vs, hv, all2_frz hext hrep hall⟩
    | tup cs =>
      obtain ⟨vs, hv, hall⟩ := hrel
      exact ⟨vs, hv, all2_frz hext hrep hall⟩
    | mb g b x => exact fun ht => SRel.frz hext hrep (hrel ht)
  · intro t' o' ho'
    obtain ⟨hne, o, ho, rfl⟩ := getdel t' o' ho'
    have hob := hr.objs t' o ho
    have hn : ∀ b, Blk (ρ t') b → h' b = none := by
      intro b hb
      cases hq : h' b with
      | none => rfl
      | some q =>
        have := hnew b (hob.block hb).2.1 (by simp [hq])
        exact (hr.apart s t' _ o b hne hs ho this hb).elim
    have hob' := hob.toHeap hext (fun _ _ => rfl) hn
    cases o with
    | one u x => exact hob'
    | seq u ys => exact hob'
    | que u ys => exact hob'
    | map u v m => exact hob'
    | raw b o => exact hob'
    | cells cs =>
      obtain ⟨b, cur, el, h1, h2, h3, h4, h5, h6⟩ := hob
      exact ⟨b, cur, el, h1, h2, hn b (by rw [h1]; rfl), h4, all2_frz hext hrep h5, h6⟩
    | rows d u ys hls =>
      obtain ⟨hd, heads, F, e1, e2, e3, e4⟩ := hob
      exact ⟨hd, heads, F, e1, e2, fun b hb => ⟨(e3 b hb).1, hn b (by rw [e1]; exact blk_mkR.2 hb)⟩, e4.map _ (fun _ _ _ e => rep_mono hext _ _ _ e) (fun _ _ e => SRel.frz hext hrep e) (fun _ _ => rfl)⟩
  · intro t1 t2 o1 o2 b hne h1 h2 hb
    obtain ⟨_, p1, hp1, rfl⟩ := getdel t1 o1 h1
    obtain ⟨_, p2, hp2, rfl⟩ := getdel t2 o2 h2
    exact hr.apart t1 t2 p1 p2 b hne hp1 hp2 hb
  · intro b h0 hb
    cases hq : h' b with
    | none => rfl
    | some q =>
      have hn := hr.fresh b h0 hb
      have := hlow b (hnew b hn (by simp [hq]))
      omega
  · intro t' o' b ho' hlt' hb
    obtain ⟨_, p1, hp1, rfl⟩ := getdel t' o' ho'
    exact hr.low t' p1 b hp1 hlt' hb

/-! ### what the rules read off -/
def takeF (fr : Fr) (L : LL) (s n : Nat) (i : Int) (x : SV) : Option (Fr × LL × Prop) :=
  match get L s, x with
  | some (.rows d t xs hs), .dat u y =>
    if hu : u = t then
      match rowObj d t (hu ▸ y) with
      | some ob => if (nameOk s && nameOk n && !(n == s) && (!(decide (n < 1000)) || decide (s < 1000))) = true then
          some (killF n fr, put (newL n ob L) s (.rows d t xs ((i, true, .slc n) :: mapHs (SV.kill n) hs)), Idx xs i (hu ▸ y) ∧ AllP (hs.map fun e => e.1 ≠ i))
        else none
      | none => none
    else none
  | _, _ => none
theorem takeF_ok {s n : Nat} {i : Int} {x : SV} {r : Fr × LL × Prop} (hr : Rel C fr L a w) (h : takeF fr L s n i x = some r) (hp : r.2.2) : Rel C r.1 r.2.1 a w := by
  unfold takeF at h
  split at h
  · rename_i d t xs hs u y hg
    split at h
    · rename_i hu
      subst hu
      split at h
      · rename_i ob hob
        split at h
        · rename_i hc
          obtain rfl := Option.some.inj h
          simp only [Bool.and_eq_true, Bool.or_eq_true, Bool.not_eq_true', beq_eq_false_iff_ne, decide_eq_false_iff_not, decide_eq_true_eq] at hc
          obtain ⟨⟨⟨h1, h2⟩, h3⟩, h4⟩ := hc
          exact hr.take hg hp.1 (fun e he => hp.2.mem _ (List.mem_map.2 ⟨e, he, rfl⟩)) h1 h2 h3 (fun hl => h4.elim (fun q => (q hl).elim) id) hob
        · cases h
      · cases h
    · cases h
  · cases h
def giveF (fr : Fr) (L : LL) (s : Nat) (i : Int) (same : List Bool) : Option (Fr × LL × Prop) :=
  match get L s with
  | some (.rows d t xs hs) =>
    match firstSame hs same with
    | some (.slc n) =>
      match get L n with
      | some ob =>
        match rowOf d t ob with
        | some x => if (!(n == s) && nameOk s && (!(decide (s < 1000)) || decide (n < 1000)) && Nat.beq hs.length same.length && anyTaken hs same) = true then
            some (mapv (AV.unhd s) fr, put (mapv (LObj.unhd s) (del L n)) s (.rows d t (List.set xs i.toNat x) (mapHs (SV.unhd s) (restHs hs same))), InR i (List.length xs) ∧ AllP (keysOk i hs same))
          else none
        | none => none
      | none => none
    | _ => none
  | _ => none
theorem giveF_ok {s : Nat} {i : Int} {same : List Bool} {r : Fr × LL × Prop} (hr : Rel C fr L a w) (h : giveF fr L s i same = some r) (hp : r.2.2) : Rel C r.1 r.2.1 a w := by
  unfold giveF at h
  split at h
  · rename_i d t xs hs hg
    split at h
    · rename_i n hf
      split at h
      · rename_i ob hob
        split at h
        · rename_i x hx
          split at h
          · rename_i hc
            obtain rfl := Option.some.inj h
            simp only [Bool.and_eq_true, Bool.or_eq_true, Bool.not_eq_true', beq_eq_false_iff_ne, decide_eq_false_iff_not, decide_eq_true_eq, Nat.beq_eq_true_eq] at hc
            obtain ⟨⟨⟨⟨h1, h2⟩, h3⟩, h4⟩, h5⟩ := hc
            exact hr.give hg hob hx h1 h2 (fun hl => h3.elim (fun q => (q hl).elim) id) hp.1 (Nat.eq_of_beq_eq_true h4) (fun p hp' => hp.2.mem p hp') hf h5
          · cases h
        · cases h
      · cases h
    · cases h
  · cases h
/-- a row given back as it was taken -/
def giveSF (fr : Fr) (L : LL) (s : Nat) (i : Int) (same : List Bool) (y : SV) : Option (Fr × LL × Prop) :=
  match get L s, y with
  | some (.rows d t xs hs), .dat u y =>
    if hu : u = t then
      match firstSame hs same with
      | some (.slc n) =>
        match get L n with
        | some ob =>
          match rowOf d t ob with
          | some x => if (!(n == s) && nameOk s && (!(decide (s < 1000)) || decide (n < 1000)) && Nat.beq hs.length same.length && anyTaken hs same) = true then
              some (mapv (AV.unhd s) fr, put (mapv (LObj.unhd s) (del L n)) s (.rows d t xs (mapHs (SV.unhd s) (restHs hs same))), (x = hu ▸ y ∧ Idx xs i (hu ▸ y)) ∧ AllP (keysOk i hs same))
            else none
          | none => none
        | none => none
      | _ => none
    else none
  | _, _ => none
theorem InR.idx {α : Type} {xs : List α} {i : Int} {x : α} (h : Idx xs i x) : InR i (List.length xs) := by
  obtain ⟨h0, h1⟩ := h
  have := (List.getElem?_eq_some_iff.1 h1).1
  exact ⟨h0, by omega⟩
theorem giveSF_ok {s : Nat} {i : Int} {same : List Bool} {y : SV} {r : Fr × LL × Prop} (hr : Rel C fr L a w) (h : giveSF fr L s i same y = some r) (hp : r.2.2) : Rel C r.1 r.2.1 a w := by
  unfold giveSF at h
  split at h
  · rename_i d t xs hs u y hg
    split at h
    · rename_i hu
      subst hu
      split at h
      · rename_i n hf
        split at h
        · rename_i ob hob
          split at h
          · rename_i x hx
            split at h
            · rename_i hc
              obtain rfl := Option.some.inj h
              simp only [Bool.and_eq_true, Bool.or_eq_true, Bool.not_eq_true', beq_eq_false_iff_ne, decide_eq_false_iff_not, decide_eq_true_eq] at hc
              obtain ⟨⟨⟨⟨h1, h2⟩, h3⟩, h4⟩, h5⟩ := hc
              obtain ⟨⟨e1, e2⟩, e3⟩ := hp
              have e1 : x = y := e1
              subst e1
              have hset : List.set xs i.toNat x = xs := by
                have hx := e2.2
                obtain ⟨hlt, hxx⟩ := List.getElem?_eq_some_iff.1 hx
                apply List.ext_getElem?
                intro k
                by_cases hk : i.toNat = k
                · subst hk; rw [List.getElem?_set_self hlt]; exact hx.symm
                · rw [List.getElem?_set_ne hk]
              have := hr.give hg hob hx h1 h2 (fun hl => h3.elim (fun q => (q hl).elim) id) (InR.idx e2) (Nat.eq_of_beq_eq_true h4) (fun p hp' => e3.mem p hp') hf h5
              rw [hset] at this
              exact this
            · cases h
          · cases h
        · cases h
      · cases h
    · cases h
  · cases h
def swapF (fr : Fr) (L : LL) (s : Nat) (i j : Int) (x y : SV) : Option (Fr × LL × Prop) :=
  match get L s, x, y with
  | some (.rows d t xs [(kb, false, .rhd s1 ja), (ka, false, .rhd s2 jb)]), .dat u x, .dat v y =>
    if hu : u = t then
      if hv : v = t then
        if (nameOk s && s1 == s && s2 == s) = true then
          some (mapv (AV.unhd s) fr, put (mapv (LObj.unhd s) L) s (.rows d t ((List.set xs i.toNat (hv ▸ y)).set j.toNat (hu ▸ x)) []), (kb = j ∧ ja = i ∧ ka = i ∧ jb = j) ∧ Idx xs i (hu ▸ x) ∧ Idx xs j (hv ▸ y))
        else none
      else none
    else none
  | _, _, _ => none
theorem swapF_ok {s : Nat} {i j : Int} {x y : SV} {r : Fr × LL × Prop} (hr : Rel C fr L a w) (h : swapF fr L s i j x y = some r) (hp : r.2.2) : Rel C r.1 r.2.1 a w := by
  unfold swapF at h
  split at h
  · rename_i d t xs kb s1 ja ka s2 jb u x v y hg
    split at h
    · rename_i hu
      subst hu
      split at h
      · rename_i hv
        subst hv
        split at h
        · rename_i hc
          obtain rfl := Option.some.inj h
          simp only [Bool.and_eq_true, beq_iff_eq] at hc
          obtain ⟨⟨h1, h2⟩, h3⟩ := hc
          subst h2
          subst h3
          obtain ⟨⟨p1, p2, p3, p4⟩, p5, p6⟩ := hp
          exact hr.swap (tb1 := false) (tb2 := false) hg h1 p1 p2 p3 p4 p5 p6
        · cases h
      · cases h
    · cases h
  · cases h
def frzRF (fr : Fr) (L : LL) (s : Nat) : Option (Fr × LL) :=
  match (get L s).bind LObj.seqd with
  | some ⟨t, xs⟩ => if s < 1000 then some (mapv (AV.frz s t xs) fr, mapv (LObj.frz s t xs) (del L s)) else none
  | none => none
def frzRT (fr : Fr) (L : LL) (s : Nat) : Fr × LL := (frzRF fr L s).getD (fr, L)
theorem frzRF_ok {s : Nat} (hr : Rel C fr L a w) (h : (frzRF fr L s).isSome = true) : Rel C (frzRT fr L s).1 (frzRT fr L s).2 a w := by
  unfold frzRT
  unfold frzRF at h ⊢
  split at h
  · rename_i t xs hg
    split at h
    · rename_i hlt
      rw [if_pos hlt]
      obtain ⟨o, ho, hq⟩ := Option.bind_eq_some_iff.1 hg
      exact hr.freezeR ho hq hlt
    · cases h
  · cases h

/-- the nil slice in a slot, as a slice of slices that can grow -/
theorem RelH.nilRows {h : Heap} {ρ : Nat → Value} (hr : RelH C h ρ fr L a w) (s d : Nat) (t : Ty) (hnm : nameOk s = true) : RelH C h (upd ρ s (mkR (.slice none 0 0) [] [])) (killF s fr) (newL s (.rows d t [] []) L) a w :=
  hr.fresh_name s hnm _ _ _ rfl rfl rfl (Nat.le_refl _) none (fun b hb => by cases hb) (fun _ _ _ => rfl) ⟨_, _, _, rfl, List.nodup_nil, by simp, .inl ⟨rfl, rfl, rfl, rfl⟩⟩ (fun b hb => by have := blk_mkR.1 hb; cases this) (fun _ b hb => by have := blk_mkR.1 hb; cases this)
theorem Rel.ownRows {t s d : Nat} {u : Ty} {fr' : Fr} (hr : Rel C fr L a w) (h : ownF fr t s = some fr') : Rel C fr' (newL s (.rows d u [] []) L) a w := by
  unfold ownF at h
  split at h
  · rename_i hx
    split at h
    · rename_i hlt
      simp only [Option.some.injEq] at h; subst h
      obtain ⟨h, ρ, hr⟩ := hr
      have hnm : nameOk s = true := by simp [nameOk, hlt]
      have hnew := hr.nilRows s d u hnm
      refine ⟨h, _, { hnew with fr := fun k av hk => ?_ }⟩
      rw [get] at hk
      split at hk
      · rename_i htk; subst htk
        simp only [Option.some.injEq] at hk; subst hk
        obtain ⟨h1, h2⟩ := hr.fr t _ hx
        have h2 : a.tmps.getD t undef = .slice none 0 0 := h2
        exact ⟨h1, by rw [h2]; exact ⟨by simp [upd]; rfl, rfl⟩⟩
      · exact hnew.fr k av hk
    · simp at h
  · simp at h
/-- the nil slice in a cell -/
def cellOwnR (L : LL) (s i t d : Nat) (u : Ty) : Option LL :=
  match get L s with
  | some (.cells cs) => match cs[i]? with
    | some .nilS => if t < 1000 ∧ s ≠ t then some (put (newL t (.rows d u [] []) L) s (.cells ((cs.map (SV.kill t)).set i (.slc t)))) else none
    | _ => none
  | _ => none
def cellOwnRT (L : LL) (s i t d : Nat) (u : Ty) : LL := (cellOwnR L s i t d u).getD L
theorem Rel.cellOwnR {s i t d : Nat} {u : Ty} {L' : LL} (hr : Rel C fr L a w) (h : Sl.cellOwnR L s i t d u = some L') : Rel C (killF t fr) L' a w := by
  unfold Sl.cellOwnR at h
  split at h
  · rename_i cs hs
    split at h
    · rename_i hx
      split at h
      · rename_i hc
        simp only [Option.some.injEq] at h; subst h
        obtain ⟨hh, ρ, hr⟩ := hr
        have hnm : nameOk t = true := by simp [nameOk, hc.1]
        have hnew := hr.nilRows t d u hnm
        have hs2 : get (newL t (.rows d u [] []) L) s = some (.cells (cs.map (SV.kill t))) := by
          rw [get_newL, if_neg (fun e => hc.2 e.symm), hs]; rfl
        have hx2 : (cs.map (SV.kill t))[i]? = some .nilS := by
          rw [List.getElem?_map, hx]; rfl
        obtain ⟨b, cur, e, h1, h2, h3, h4, h5, h6⟩ := hnew.objs _ _ hs2
        refine ⟨hh, _, hnew.reput hs2 ⟨b, cur, e, h1, h2, h3, h4, all2_set i h5 hx2 fun v hv => ?_, h6⟩⟩
        have hv : v = .slice none 0 0 := hv
        subst hv
        exact ⟨by simp [upd]; rfl, rfl⟩
      · cases h
    · cases h
  · cases h
end

section
variable {C : Ctx} {fr : Fr} {L : LL} {Q : Post} {c : Code} {ops : Array Oper} {j : Nat} {e : Exit} {p : Prop}
theorem ghost_map {o : Option (Fr × LL × Prop)} (h : o.map (·.2.2) = some p) : ∃ r, o = some r ∧ r.2.2 = p := by
  obtain ⟨r, h1, h2⟩ := Option.map_eq_some_iff.1 h
  exact ⟨r, h1, h2⟩
theorem take_go {P : Fr × LL → Prop} {s n : Nat} {i : Int} {x : SV} (h : (takeF fr L s n i x).map (·.2.2) = some p) (hp : p) (hP : P (gT (takeF fr L s n i x) fr L)) : ∃ f l, P (f, l) ∧ ∀ a w, Rel C fr L a w → Rel C f l a w := by
  obtain ⟨r, h1, rfl⟩ := ghost_map h
  rw [h1] at hP
  exact ⟨_, _, hP, fun a w hr => takeF_ok hr h1 hp⟩
theorem give_go {P : Fr × LL → Prop} {s : Nat} {i : Int} {same : List Bool} (h : (giveF fr L s i same).map (·.2.2) = some p) (hp : p) (hP : P (gT (giveF fr L s i same) fr L)) : ∃ f l, P (f, l) ∧ ∀ a w, Rel C fr L a w → Rel C f l a w := by
  obtain ⟨r, h1, rfl⟩ := ghost_map h
  rw [h1] at hP
  exact ⟨_, _, hP, fun a w hr => giveF_ok hr h1 hp⟩
theorem swap_go {P : Fr × LL → Prop} {s : Nat} {i k : Int} {x y : SV} (h : (swapF fr L s i k x y).map (·.2.2) = some p) (hp : p) (hP : P (gT (swapF fr L s i k x y) fr L)) : ∃ f l, P (f, l) ∧ ∀ a w, Rel C fr L a w → Rel C f l a w := by
  obtain ⟨r, h1, rfl⟩ := ghost_map h
  rw [h1] at hP
  exact ⟨_, _, hP, fun a w hr => swapF_ok hr h1 hp⟩
theorem W_take (s n : Nat) (i : Int) (x : SV) (h : (takeF fr L s n i x).map (·.2.2) = some p) (hp : p) (hw : W C c Q (gT (takeF fr L s n i x) fr L).1 (gT (takeF fr L s n i x) fr L).2) : W C c Q fr L := by
  obtain ⟨f, l, h1, h2⟩ := take_go (C := C) (P := fun q => W C c Q q.1 q.2) h hp hw
  exact fun a w hr => h1 a w (h2 a w hr)
theorem WO_take (s n : Nat) (i : Int) (x : SV) (h : (takeF fr L s n i x).map (·.2.2) = some p) (hp : p) (hw : WO C ops j Q (gT (takeF fr L s n i x) fr L).1 (gT (takeF fr L s n i x) fr L).2) : WO C ops j Q fr L := by
  obtain ⟨f, l, h1, h2⟩ := take_go (C := C) (P := fun q => WO C ops j Q q.1 q.2) h hp hw
  exact fun a w hr => h1 a w (h2 a w hr)
theorem W_give (s : Nat) (i : Int) (same : List Bool) (h : (giveF fr L s i same).map (·.2.2) = some p) (hp : p) (hw : W C c Q (gT (giveF fr L s i same) fr L).1 (gT (giveF fr L s i same) fr L).2) : W C c Q fr L := by
  obtain ⟨f, l, h1, h2⟩ := give_go (C := C) (P := fun q => W C c Q q.1 q.2) h hp hw
  exact fun a w hr => h1 a w (h2 a w hr)
theorem WO_give (s : Nat) (i : Int) (same : List Bool) (h : (giveF fr L s i same).map (·.2.2) = some p) (hp : p) (hw : WO C ops j Q (gT (giveF fr L s i same) fr L).1 (gT (giveF fr L s i same) fr L).2) : WO C ops j Q fr L := by
  obtain ⟨f, l, h1, h2⟩ := give_go (C := C) (P := fun q => WO C ops j Q q.1 q.2) h hp hw
  exact fun a w hr => h1 a w (h2 a w hr)
theorem W_giveS (s : Nat) (i : Int) (same : List Bool) (y : SV) (h : (giveSF fr L s i same y).map (·.2.2) = some p) (hp : p) (hw : W C c Q (gT (giveSF fr L s i same y) fr L).1 (gT (giveSF fr L s i same y) fr L).2) : W C c Q fr L := by
  obtain ⟨r, h1, rfl⟩ := ghost_map h
  rw [h1] at hw
  exact fun a w hr => hw a w (giveSF_ok hr h1 hp)
theorem WO_giveS (s : Nat) (i : Int) (same : List Bool) (y : SV) (h : (giveSF fr L s i same y).map (·.2.2) = some p) (hp : p) (hw : WO C ops j Q (gT (giveSF fr L s i same y) fr L).1 (gT (giveSF fr L s i same y) fr L).2) : WO C ops j Q fr L := by
  obtain ⟨r, h1, rfl⟩ := ghost_map h
  rw [h1] at hw
  exact fun a w hr => hw a w (giveSF_ok hr h1 hp)
theorem WO_swap (s : Nat) (i k : Int) (x y : SV) (h : (swapF fr L s i k x y).map (·.2.2) = some p) (hp : p) (hw : WO C ops j Q (gT (swapF fr L s i k x y) fr L).1 (gT (swapF fr L s i k x y) fr L).2) : WO C ops j Q fr L := by
  obtain ⟨f, l, h1, h2⟩ := swap_go (C := C) (P := fun q => WO C ops j Q q.1 q.2) h hp hw
  exact fun a w hr => h1 a w (h2 a w hr)
theorem W_frzR (s : Nat) (h : (frzRF fr L s).isSome = true) (hw : W C c Q (frzRT fr L s).1 (frzRT fr L s).2) : W C c Q fr L := fun a w hr => hw a w (frzRF_ok hr h)
theorem WO_frzR (s : Nat) (h : (frzRF fr L s).isSome = true) (hw : WO C ops j Q (frzRT fr L s).1 (frzRT fr L s).2) : WO C ops j Q fr L := fun a w hr => hw a w (frzRF_ok hr h)
theorem LT_frzR (s : Nat) (h : (frzRF fr L s).isSome = true) (hw : LT C Q e (frzRT fr L s).1 (frzRT fr L s).2) : LT C Q e fr L := fun a w hr => hw a w (frzRF_ok hr h)
theorem W_mineR (t s d : Nat) (u : Ty) (h : (ownF fr t s).isSome = true) (hw : W C c Q (ownT fr t s) (newL s (.rows d u [] []) L)) : W C c Q fr L := by
  obtain ⟨f, hf⟩ := Option.isSome_iff_exists.1 h
  unfold ownT at hw; rw [hf] at hw
  exact fun a w hr => hw a w (hr.ownRows hf)
theorem WO_mineR (t s d : Nat) (u : Ty) (h : (ownF fr t s).isSome = true) (hw : WO C ops j Q (ownT fr t s) (newL s (.rows d u [] []) L)) : WO C ops j Q fr L := by
  obtain ⟨f, hf⟩ := Option.isSome_iff_exists.1 h
  unfold ownT at hw; rw [hf] at hw
  exact fun a w hr => hw a w (hr.ownRows hf)
theorem LT_mineR (t s d : Nat) (u : Ty) (h : (ownF fr t s).isSome = true) (hw : LT C Q e (ownT fr t s) (newL s (.rows d u [] []) L)) : LT C Q e fr L := by
  obtain ⟨f, hf⟩ := Option.isSome_iff_exists.1 h
  unfold ownT at hw; rw [hf] at hw
  exact fun a w hr => hw a w (hr.ownRows hf)
theorem W_cellownR (s i t d : Nat) (u : Ty) (h : (cellOwnR L s i t d u).isSome = true) (hw : W C c Q (killF t fr) (cellOwnRT L s i t d u)) : W C c Q fr L := by
  obtain ⟨f, hf⟩ := Option.isSome_iff_exists.1 h
  unfold cellOwnRT at hw; rw [hf] at hw
  exact fun a w hr => hw a w (hr.cellOwnR hf)
theorem WO_cellownR (s i t d : Nat) (u : Ty) (h : (cellOwnR L s i t d u).isSome = true) (hw : WO C ops j Q (killF t fr) (cellOwnRT L s i t d u)) : WO C ops j Q fr L := by
  obtain ⟨f, hf⟩ := Option.isSome_iff_exists.1 h
  unfold cellOwnRT at hw; rw [hf] at hw
  exact fun a w hr => hw a w (hr.cellOwnR hf)
theorem LT_cellownR (s i t d : Nat) (u : Ty) (h : (cellOwnR L s i t d u).isSome = true) (hw : LT C Q e (killF t fr) (cellOwnRT L s i t d u)) : LT C Q e fr L := by
  obtain ⟨f, hf⟩ := Option.isSome_iff_exists.1 h
  unfold cellOwnRT at hw; rw [hf] at hw
  exact fun a w hr => hw a w (hr.cellOwnR hf)
theorem W_lenR {s d : Nat} {u : Ty} {xs : List u.den} {hs : List (Int × Bool × SV)} (h : get L s = some (.rows d u xs hs)) (hw : List.length xs ≤ maxSl → W C c Q fr L) : W C c Q fr L := by
  intro a w hr
  obtain ⟨h', ρ, hr'⟩ := hr
  have hl : List.length xs ≤ maxSl := by
    obtain ⟨hd, heads, F, _, _, _, hR⟩ := hr'.objs s _ h
    rcases hR with ⟨_, rfl, _⟩ | ⟨_, _, _, _, _, _, _, _, _, _, _, _, hl, _⟩
    · exact Nat.zero_le _
    · exact hl
  exact hw hl a w ⟨h', ρ, hr'⟩
end
theorem InR.last {α : Type} (xs ys : List α) (h : 0 < ys.length) : InR (List.length xs : Int) (List.length (xs ++ ys)) := ⟨by omega, by rw [List.length_append]; omega⟩
theorem InR.set {α : Type} {xs : List α} {i : Int} {k : Nat} {y : α} (h : InR i (List.length xs)) : InR i (List.length (List.set xs k y)) := by
  rw [List.length_set]; exact h
end Go.Sl

/- Maps: the nil map as an object; a loop over a map. -/
namespace Go.Sl
open Go
/-- a nil map in a cell, as an object -/
def cellOwnM (L : LL) (s i t : Nat) (u v : Ty) : Option LL :=
  match get L s with
  | some (.cells cs) => match cs[i]? with
    | some .nilM => if t < 1000 ∧ s ≠ t then some (put (newL t (.map u v none) L) s (.cells ((cs.map (SV.kill t)).set i (.slc t)))) else none
    | _ => none
  | _ => none
def cellOwnMT (L : LL) (s i t : Nat) (u v : Ty) : LL := (cellOwnM L s i t u v).getD L
/-- a nil map in a slot, as an object -/
def ownMF (fr : Fr) (t s : Nat) : Option Fr :=
  match get fr t with
  | some (.one .nilM) => if s < 1000 then some ((t, .one (.slc s)) :: killF s fr) else none
  | _ => none
def ownMT (fr : Fr) (t s : Nat) : Fr := (ownMF fr t s).getD fr
section
variable {C : Ctx} {fr : Fr} {L : LL} {a : Act} {w : World}
theorem Rel.cellOwnM {s i t : Nat} {u v : Ty} {L' : LL} (hr : Rel C fr L a w) (h : Sl.cellOwnM L s i t u v = some L') : Rel C (killF t fr) L' a w := by
  unfold Sl.cellOwnM at h
  split at h
  · rename_i cs hs
    split at h
    · rename_i hx
      split at h
      · rename_i hc
        simp only [Option.some.injEq] at h; subst h
        obtain ⟨hh, ρ, hr⟩ := hr
        have hnm : nameOk t = true := by simp [nameOk, hc.1]
        have hnew := hr.fresh_name t hnm (.map none) (.map u v none) w rfl rfl rfl (Nat.le_refl _) none (fun b hb => by cases hb) (fun _ _ _ => rfl) (.inl ⟨rfl, rfl⟩) (fun b hb => by simp [Blk] at hb) (fun _ b hb => by simp [Blk] at hb)
        have hs2 : get (newL t (.map u v none) L) s = some (.cells (cs.map (SV.kill t))) := by
          rw [get_newL, if_neg (fun e => hc.2 e.symm), hs]; rfl
        have hx2 : (cs.map (SV.kill t))[i]? = some .nilM := by
          rw [List.getElem?_map, hx]; rfl
        refine ⟨hh, _, { hnew with objs := fun r o ho => ?_, apart := fun r r' o o' b hne ho ho' => ?_, low := fun r o b ho => ?_ }⟩
        · rw [get_put] at ho
          split at ho
          · rename_i hst; subst hst
            simp only [Option.some.injEq] at ho; subst ho
            obtain ⟨b, cur, e, h1, h2, h3, h4, h5, h6⟩ := hnew.objs _ _ hs2
            refine ⟨b, cur, e, h1, h2, h3, h4, all2_set i h5 hx2 fun v hv => ?_, h6⟩
            have hv : v = .map none := hv
            subst hv
            exact ⟨by simp [upd]; rfl, rfl⟩
          · exact hnew.objs r o ho
        · have key : ∀ r o, get (put (newL t (.map u v none) L) s (.cells ((cs.map (SV.kill t)).set i (.slc t)))) r = some o → ∃ o', get (newL t (.map u v none) L) r = some o' := by
            intro r o ho
            rw [get_put] at ho
            split at ho
            · rename_i hst; subst hst; exact ⟨_, hs2⟩
            · exact ⟨o, ho⟩
          obtain ⟨p, hp⟩ := key _ _ ho
          obtain ⟨p', hp'⟩ := key _ _ ho'
          exact hnew.apart r r' p p' b hne hp hp'
        · rw [get_put] at ho
          split at ho
          · rename_i hst; subst hst; exact hnew.low _ _ b hs2
          · exact hnew.low r o b ho
      · cases h
    · cases h
  · cases h
theorem Rel.ownNilM {t s : Nat} {u v : Ty} {fr' : Fr} (hr : Rel C fr L a w) (h : ownMF fr t s = some fr') : Rel C fr' (newL s (.map u v none) L) a w := by
  unfold ownMF at h
  split at h
  · rename_i hx
    split at h
    · rename_i hlt
      simp only [Option.some.injEq] at h; subst h
      obtain ⟨h, ρ, hr⟩ := hr
      have hnm : nameOk s = true := by simp [nameOk, hlt]
      have hnew := hr.fresh_name s hnm (.map none) (.map u v none) w rfl rfl rfl (Nat.le_refl _) none (fun b hb => by cases hb) (fun _ _ _ => rfl) (.inl ⟨rfl, rfl⟩) (fun b hb => by simp [Blk] at hb) (fun _ b hb => by simp [Blk] at hb)
      refine ⟨h, _, { hnew with fr := fun k av hk => ?_ }⟩
      rw [get] at hk
      split at hk
      · rename_i htk; subst htk
        simp only [Option.some.injEq] at hk; subst hk
        obtain ⟨h1, h2⟩ := hr.fr t _ hx
        have h2 : a.tmps.getD t undef = .map none := h2
        exact ⟨h1, by rw [h2]; exact ⟨by simp [upd]; rfl, rfl⟩⟩
      · exact hnew.fr k av hk
    · simp at h
  · simp at h
variable {Q : Post} {c : Code} {ops : Array Oper} {e : Exit}
theorem W_cellownM (s i t : Nat) (u v : Ty) (h : (cellOwnM L s i t u v).isSome = true) (hw : W C c Q (killF t fr) (cellOwnMT L s i t u v)) : W C c Q fr L := by
  obtain ⟨f, hf⟩ := Option.isSome_iff_exists.1 h
  unfold cellOwnMT at hw; rw [hf] at hw
  exact fun a w hr => hw a w (hr.cellOwnM hf)
theorem WO_cellownM {j : Nat} (s i t : Nat) (u v : Ty) (h : (cellOwnM L s i t u v).isSome = true) (hw : WO C ops j Q (killF t fr) (cellOwnMT L s i t u v)) : WO C ops j Q fr L := by
  obtain ⟨f, hf⟩ := Option.isSome_iff_exists.1 h
  unfold cellOwnMT at hw; rw [hf] at hw
  exact fun a w hr => hw a w (hr.cellOwnM hf)
theorem LT_cellownM (s i t : Nat) (u v : Ty) (h : (cellOwnM L s i t u v).isSome = true) (hw : LT C Q e (killF t fr) (cellOwnMT L s i t u v)) : LT C Q e fr L := by
  obtain ⟨f, hf⟩ := Option.isSome_iff_exists.1 h
  unfold cellOwnMT at hw; rw [hf] at hw
  exact fun a w hr => hw a w (hr.cellOwnM hf)
theorem W_mineM (t s : Nat) (u v : Ty) (h : (ownMF fr t s).isSome = true) (hw : W C c Q (ownMT fr t s) (newL s (.map u v none) L)) : W C c Q fr L := by
  obtain ⟨f, hf⟩ := Option.isSome_iff_exists.1 h
  unfold ownMT at hw; rw [hf] at hw
  exact fun a w hr => hw a w (hr.ownNilM hf)
theorem WO_mineM {j : Nat} (t s : Nat) (u v : Ty) (h : (ownMF fr t s).isSome = true) (hw : WO C ops j Q (ownMT fr t s) (newL s (.map u v none) L)) : WO C ops j Q fr L := by
  obtain ⟨f, hf⟩ := Option.isSome_iff_exists.1 h
  unfold ownMT at hw; rw [hf] at hw
  exact fun a w hr => hw a w (hr.ownNilM hf)
theorem LT_mineM (t s : Nat) (u v : Ty) (h : (ownMF fr t s).isSome = true) (hw : LT C Q e (ownMT fr t s) (newL s (.map u v none) L)) : LT C Q e fr L := by
  obtain ⟨f, hf⟩ := Option.isSome_iff_exists.1 h
  unfold ownMT at hw; rw [hf] at hw
  exact fun a w hr => hw a w (hr.ownNilM hf)
end
end Go.Sl
namespace Go.Sl
open Go
/-! ### a loop over a map -/
def forR {α X : Type} (b : α → X → Option X) : List α → X → Option X
  | [], x => some x
  | a :: l, x => (b a x).bind fun x' => forR b l x'
/-- a loop over a map's entries, if their order does not matter -/
noncomputable def rangeM {α X : Type} (b : α → X → Option X) (l : List α) (x : X) : Option X :=
  open Classical in if ∀ l', List.Perm l' l → forR b l' x = forR b l x then forR b l x else none
theorem rangeM_some {α X : Type} {b : α → X → Option X} {l : List α} {x y : X} (h : rangeM b l x = some y) : ∀ l', List.Perm l' l → forR b l' x = some y := by
  unfold rangeM at h
  split at h
  · rename_i hp
    intro l' hl
    rw [hp l' hl, h]
  · cases h

/-- what is known of a map whose entries are looked through -/
structure MapIs (k v : Ty) (l : List (k.den × v.den)) (es : Array MapEntry) (ck : Nat) : Prop where
  all : ∀ h, All2 (ERel h k v) l es.toList
  st : Stamps es ck

theorem rep_flat_any {h h' : Heap} : ∀ (t : Ty), flat t = true → ∀ (x : t.den) (cs : List Value), rep h t x cs → rep h' t x cs
  | .int _, _, x, cs, e => e
  | .bool, _, x, cs, e => e
  | .str, _, x, cs, e => e
  | .slice _, hf, _, _, _ => by simp [flat] at hf
  | .tree, hf, _, _, _ => by simp [flat] at hf
  | .pair a b, hf, x, cs, e => by
    simp only [flat, Bool.and_eq_true] at hf
    simp only [rep] at e ⊢
    obtain ⟨c1, c2, rfl, r1, r2⟩ := e
    exact ⟨c1, c2, rfl, rep_flat_any a hf.1 _ _ r1, rep_flat_any b hf.2 _ _ r2⟩
  | .wrap a, hf, x, cs, e => rep_flat_any a hf x cs e
  | .arr n a, hf, x, cs, e => by
    simp only [rep] at e ⊢
    exact ⟨e.1, e.2.1, fun i y hy => rep_flat_any a hf _ _ (e.2.2 i y hy)⟩
theorem repV_flat_any {h h' : Heap} {t : Ty} (hf : flat t = true) {x : t.den} {v : Value} (e : RepV h t x v) : RepV h' t x v := by
  unfold RepV at e ⊢
  split at e
  · rename_i ha
    obtain ⟨cs, rfl, hr⟩ := e
    rw [if_pos ha]; exact ⟨cs, rfl, rep_flat_any t hf _ _ hr⟩
  · rename_i ha
    rw [if_neg ha]; exact rep_flat_any t hf _ _ e
theorem erel_any {h h' : Heap} {k v : Ty} (hk : flat k = true) (hv : flat v = true) : ∀ {l : List (k.den × v.den)} {es : List MapEntry}, All2 (ERel h k v) l es → All2 (ERel h' k v) l es
  | _, _, .nil => .nil
  | _, _, .cons e r => .cons ⟨repV_flat_any hk e.1, repV_flat_any hv e.2⟩ (erel_any hk hv r)

/-- the operation that begins it -/
def rangeAt (P : Program) (n : Nat) (ops : Array Oper) (i : Nat) (fr : Fr) (L : LL) : Option (Nat × Nat × ((k : Ty) × (v : Ty) × Option (List (k.den × v.den)))) :=
  match ops[i]? with
  | some o => match o.guard, o.dst, o.op with
    | none, some d, .range t x => match P.underlying t, evS fr none x with
      | some (.map _ _), some (.one (.slc s)) => match get L s with
        | some (.map k v m) => if flat k && flat v && nameOk d && decide (d < n) && !(s == d) then some (d, s, ⟨k, v, m⟩) else none
        | _ => none
      | _, _ => none
    | _, _, _ => none
  | none => none

section
variable {C : Ctx} {fr : Fr} {L : LL} {Q : Post}
theorem RelH.asRaw {h : Heap} {ρ : Nat → Value} {a : Act} {w : World} (hr : RelH C h ρ fr L a w) {s bm ck : Nat} {es : Array MapEntry} {o₀ : LObj} (hg : get L s = some o₀) (hρ : ρ s = .map (some bm)) (hb : w.heap[bm]? = some (.map es ck)) :
    RelH C h ρ fr (put L s (.raw bm (.map es ck))) a w := by
  have h0 := (hr.objs s _ hg).block (show Blk (ρ s) bm by rw [hρ]; rfl)
  exact hr.write s _ _ _ bm hg (by rw [hρ]; rfl) rfl rfl rfl (Nat.le_refl _) (fun _ _ _ => rfl) ⟨hρ, h0.1, h0.2.1, hb, fun _ e => by cases e⟩

theorem WO_range {ops : Array Oper} {i j d s : Nat} {k v : Ty} {m : Option (List (k.den × v.den))} {l : List (k.den × v.den)} (hj : j = i + 1) (ha : rangeAt C.P C.n ops i fr L = some (d, s, ⟨k, v, m⟩)) (hm : m = some l)
    (hn : ∀ (bm bi : Nat) (es : Array MapEntry) (ck : Nat), MapIs k v l es ck → WO C ops j Q (putF (killF d fr) d (.one (.ptr d 0))) (newL d (.raw bi (.mapIter (some bm) ck #[] ck)) (put L s (.raw bm (.map es ck))))) : WO C ops i Q fr L := by
  intro a w ⟨h, ρ, hr⟩
  unfold rangeAt at ha
  split at ha
  · rename_i o ho
    split at ha
    · rename_i d' t x hg hdst hop
      split at ha
      · rename_i kt vt s' hu hx
        split at ha
        · rename_i k' v' m' hgs
          split at ha
          · rename_i hc
            simp only [Option.some.injEq, Prod.mk.injEq, Sigma.mk.injEq] at ha
            obtain ⟨rfl, rfl, rfl, ha⟩ := ha
            obtain ⟨rfl, ha⟩ := Sigma.mk.inj (eq_of_heq ha)
            obtain rfl := eq_of_heq ha
            subst hm
            simp only [Bool.and_eq_true, Bool.not_eq_true', beq_eq_false_iff_ne, decide_eq_true_eq] at hc
            obtain ⟨⟨⟨⟨hfk, hfv⟩, hnm⟩, hdn⟩, hsd⟩ := hc
            have hlen : i < ops.toList.length := by
              have := (Array.getElem?_eq_some_iff.1 ho).1; simpa using this
            have hdrop : ops.toList.drop i = o :: ops.toList.drop j := by
              rw [hj, ← List.getElem_cons_drop hlen]
              congr 1
              have := (Array.getElem?_eq_some_iff.1 ho).2
              simpa using this
            have hv := (evS_sound hr.fr (gd := none) (fun _ _ e => by cases e) hx).1.1.trans (map_hdr (hr.objs _ _ hgs))
            rcases hr.objs _ _ hgs with ⟨_, hnone⟩ | ⟨bm, es, ck, l', hl, hρ, hown, hh, hb, hall, hst⟩
            · cases hnone
            · obtain rfl := Option.some.inj hl
              have hmi : MapIs k' v' l es ck := ⟨fun h' => erel_any hfk hfv hall, hst⟩
              rw [hdrop]
              refine wpList_step fun K hK => ?_
              rw [if_pos (by simp [Region.wanted, hg])]
              unfold Oper.wp
              have hrun : (execOp a.eval o).run C.P w = .ok (.value (.pointer (some ⟨w.heap.size, 0, none⟩))) (w.alloc (.mapIter (some bm) ck #[] ck)) := by
                simp only [execOp, hop, Sem.run_bind, hv, hρ, run_range_map w t kt vt bm es ck hu hb, Result.andThen_ok]
                rfl
              rw [hrun, Oper.upon_value]
              refine hK _ _ (hn bm w.heap.size es ck hmi _ _ ?_)
              rw [hdst]
              have hr1 := hr.asRaw hgs hρ hb
              have hfree : h w.heap.size = none := by
                cases hq : h w.heap.size with
                | none => rfl
                | some q => obtain ⟨cur, _, _, hc, _⟩ := hr.heap _ _ hq; have := (Array.getElem?_eq_some_iff.1 hc).1; omega
              have hr2 := hr1.fresh_name d' hnm (.pointer (some ⟨w.heap.size, 0, none⟩)) (.raw w.heap.size (.mapIter (some bm) ck #[] ck)) (w.alloc (.mapIter (some bm) ck #[] ck)) rfl rfl rfl (by simp) none (fun b hb => by cases hb) (fun b hb _ => heap_alloc_old w _ hb)
                ⟨rfl, .inl hr.grow, hfree, heap_alloc_new w _, fun _ e => by cases e⟩ (fun b hb s' o' _ ho' hb' => by
                  simp [Blk] at hb
                  subst hb
                  have := ((hr1.objs s' o' ho').block hb').2.2
                  omega) (fun _ b hb => by
                  simp [Blk] at hb
                  subst hb
                  exact hr.grow)
              exact ⟨h, _, hr2.putSlot d' _ _ hdn ⟨w.heap.size, by simp [upd], rfl⟩⟩
          · cases ha
        · cases ha
      · cases ha
    · cases ha
  · cases ha

/-- the operation that reads an entry -/
def entryAt (n : Nat) (ops : Array Oper) (i : Nat) (fr : Fr) : Option (Nat × Nat) :=
  match ops[i]? with
  | some o => match o.guard, o.dst, o.op with
    | none, some d, .entry x => match evS fr none x with
      | some (.one (.ptr it 0)) => if d < n then some (d, it) else none
      | _ => none
    | _, _, _ => none
  | none => none

theorem WO_entry {ops : Array Oper} {i j d it s bi bm ck : Nat} {es : Array MapEntry} {sn : Array Nat} {e : MapEntry} {k v : Ty} {l : List (k.den × v.den)} {p : k.den × v.den} (hj : j = i + 1) (ha : entryAt C.n ops i fr = some (d, it))
    (hit : get L it = some (.raw bi (.mapIter (some bm) ck (sn.push e.born) ck))) (hs : get L s = some (.raw bm (.map es ck))) (hm : MapIs k v l es ck) (he : e ∈ es.toList) (hp : ∀ h, ERel h k v p e)
    (hn : WO C ops j Q (putF fr d (.tup [.dat k p.1, .dat v p.2])) L) : WO C ops i Q fr L := by
  intro a w ⟨h, ρ, hr⟩
  unfold entryAt at ha
  split at ha
  · rename_i o ho
    split at ha
    · rename_i d' x hg hdst hop
      split at ha
      · rename_i it' hx
        split at ha
        · rename_i hdn
          simp only [Option.some.injEq, Prod.mk.injEq] at ha
          obtain ⟨rfl, rfl⟩ := ha
          have hlen : i < ops.toList.length := by
            have := (Array.getElem?_eq_some_iff.1 ho).1; simpa using this
          have hdrop : ops.toList.drop i = o :: ops.toList.drop j := by
            rw [hj, ← List.getElem_cons_drop hlen]
            congr 1
            have := (Array.getElem?_eq_some_iff.1 ho).2
            simpa using this
          obtain ⟨b, hρi, hval⟩ := (evS_sound hr.fr (gd := none) (fun _ _ e => by cases e) hx).1
          obtain ⟨hq, _, _, hbi⟩ := hr.objs _ _ hit
          obtain ⟨_, _, _, hbm⟩ := hr.objs _ _ hs
          obtain rfl : bi = b := by rw [hq] at hρi; simpa [rawRef] using hρi
          rw [hdrop]
          refine wpList_step fun K hK => ?_
          rw [if_pos (by simp [Region.wanted, hg])]
          unfold Oper.wp
          have hf : es.find? (·.born == e.born) = some e := by rw [← Array.find?_toList]; exact find_born e es.toList hm.st.1 he
          have hrun : (execOp a.eval o).run C.P w = .ok (.value (.tuple #[e.key, e.val])) w := by
            have h1 : (Instr.entry (.pointer (some ⟨bi, 0, none⟩))).run C.P w = .ok (.tuple #[e.key, e.val]) w := by
              simp only [Instr.entry, getObj, Sem.run_bind, Sem.run, hbi, hbm, Result.andThen, Array.back?_push, bne_self_eq_false, Bool.false_eq_true, if_false, hf]
              rfl
            simp only [execOp, hop, Sem.run_bind, hval, h1, Result.andThen_ok]
            rfl
          rw [hrun, Oper.upon_value]
          refine hK _ _ (hn _ _ ?_)
          rw [hdst]
          have hpe := hp h
          exact ⟨h, ρ, hr.putSlot d' _ _ hdn ⟨[e.key, e.val], rfl, .cons hpe.1 (.cons hpe.2 .nil)⟩⟩
        · cases ha
      · cases ha
    · cases ha
  · cases ha
end
end Go.Sl
namespace Go.Sl
open Go
section
variable {P : Program}
theorem run_next' (w : World) (ty : TypeId) (bi bm ck : Nat) (sn : Array Nat) (es : Array MapEntry) (hi : w.heap[bi]? = some (.mapIter (some bm) ck sn ck)) (hb : w.heap[bm]? = some (.map es ck)) (hold : ∀ x ∈ es.toList, x.born < ck) :
    ((leftOf es sn).size = 0 ∧ (Instr.next (.pointer (some ⟨bi, 0, none⟩)) false ty).run P w = .ok (.tuple #[.bool false]) w) ∨
    ∃ e ∈ (leftOf es sn).toList, ∃ w1 : World, (w1 = w ∨ w1 = { w with drawn := w.drawn + 1 }) ∧ (Instr.next (.pointer (some ⟨bi, 0, none⟩)) false ty).run P w = .ok (.tuple #[.bool true, e.key, e.val]) { w1 with heap := w1.heap.setIfInBounds bi (.mapIter (some bm) ck (sn.push e.born) ck) } := by
  simp only [Instr.next, getObj, Sem.run_bind, Sem.run, hi, hb, Result.andThen, next_test_false sn es ck ck hold (Nat.le_refl _), Bool.false_eq_true, if_false]
  unfold leftOf
  have hmem : ∀ x ∈ (Array.filter (fun e => !sn.contains e.born) es).toList, x.born < ck := fun x hx => hold x (by simp at hx ⊢; exact hx.1)
  generalize Array.filter (fun e => !sn.contains e.born) es = L at hmem ⊢
  have e1 : L.filter (fun x => decide (x.born < ck)) = L := Array.filter_eq_self.2 (fun x hx => by simpa using hmem x (by simpa using hx))
  have e2 : L.filter (fun x => decide (x.born ≥ ck)) = #[] := by
    rw [Array.filter_eq_empty_iff]
    intro x hx
    have := hmem x (by simpa using hx)
    simp
    omega
  simp only [e1, e2, Array.append_empty]
  by_cases h0 : L.size = 0
  · left
    have : L = #[] := Array.eq_empty_of_size_eq_zero h0
    subst this
    refine ⟨rfl, ?_⟩
    simp [choose, Sem.run, Question.forced]
  · right
    have hne : L.isEmpty = false := by simp [Array.isEmpty, h0]
    simp only [hne, Bool.false_eq_true, if_false, Array.empty_append, Array.size_map]
    have hch : ∃ (j : Nat) (w1 : World), j < L.size ∧ (w1 = w ∨ w1 = { w with drawn := w.drawn + 1 }) ∧ (choose (Question.mapNext L.size)).run P w = .ok j w1 := by
      by_cases hf : L.size ≤ 1
      · exact ⟨0, w, by omega, .inl rfl, by simp [choose, Sem.run, Question.forced, hf]⟩
      · exact ⟨_, { w with drawn := w.drawn + 1 }, Nat.mod_lt _ (by omega), .inr rfl, by
          simp only [choose, Sem.run, Question.forced, decide_eq_true_eq, hf, if_false, Question.cut]
          rfl⟩
    obtain ⟨j, w1, hj, hal, hrun⟩ := hch
    refine ⟨L[j], by simp, w1, hal, ?_⟩
    have hi1 : w1.heap[bi]? = some (.mapIter (some bm) ck sn ck) := by rcases hal with rfl | rfl <;> exact hi
    have hset : (setObj bi (.mapIter (some bm) ck (sn.push L[j].born) ck)).run P w1 = .ok () { w1 with heap := w1.heap.setIfInBounds bi (.mapIter (some bm) ck (sn.push L[j].born) ck) } := by
      simp [setObj, Sem.run, hi1]
    simp only [hrun, Array.getElem?_map, Array.getElem?_eq_getElem hj, Option.map_some, Sem.run_bind, hset, Result.andThen]
    rfl
end

theorem filt_perm {α : Type} {f : α → Nat} {P : α → Bool} {q : α} : ∀ (z : List α), (z.map f).Nodup → q ∈ z → P q = true → (z.filter P).Perm (q :: z.filter (fun x => P x && !(f x == f q)))
  | [], _, hq, _ => by cases hq
  | a :: z, hn, hq, hp => by
    simp only [List.map_cons, List.nodup_cons] at hn
    rcases List.mem_cons.1 hq with rfl | hq
    · have hrest : z.filter (fun x => P x && !(f x == f q)) = z.filter P := by
        apply List.filter_congr
        intro x hx
        have hne : f x ≠ f q := fun e => hn.1 (by rw [← e]; exact List.mem_map.2 ⟨x, hx, rfl⟩)
        simp [hne]
      rw [List.filter_cons_of_pos hp, List.filter_cons_of_neg (by simp), hrest]
    · have hne : f a ≠ f q := fun e => hn.1 (by rw [e]; exact List.mem_map.2 ⟨q, hq, rfl⟩)
      have ih := filt_perm z hn.2 hq hp
      by_cases ha : P a = true
      · rw [List.filter_cons_of_pos ha, List.filter_cons_of_pos (by simp [ha, hne])]
        exact (ih.cons a).trans (List.Perm.swap _ _ _)
      · rw [List.filter_cons_of_neg ha, List.filter_cons_of_neg (by simp [ha])]
        exact ih

def leftPairs {α : Type} (l : List α) (es : Array MapEntry) (sn : Array Nat) : List α := ((l.zip es.toList).filter fun q => !sn.contains q.2.born).map (·.1)

theorem zip_fst {α β : Type} : ∀ {l : List α} {m : List β}, l.length = m.length → (l.zip m).map (·.1) = l
  | [], [], _ => rfl
  | a :: l, b :: m, h => by simp only [List.zip_cons_cons, List.map_cons, zip_fst (l := l) (m := m) (by simpa using h)]
theorem zip_snd {α β : Type} : ∀ {l : List α} {m : List β}, l.length = m.length → (l.zip m).map (·.2) = m
  | [], [], _ => rfl
  | a :: l, b :: m, h => by simp only [List.zip_cons_cons, List.map_cons, zip_snd (l := l) (m := m) (by simpa using h)]
theorem all2_zip {α β : Type} {R : α → β → Prop} : ∀ {l : List α} {m : List β}, All2 R l m → ∀ q ∈ l.zip m, R q.1 q.2
  | _, _, .nil, q, h => by simp at h
  | _, _, .cons h0 t, q, h => by
    rcases List.mem_cons.1 h with rfl | h
    · exact h0
    · exact all2_zip t q h
theorem leftPairs_none {α : Type} {l : List α} {es : Array MapEntry} (h : l.length = es.toList.length) : leftPairs l es #[] = l := by
  unfold leftPairs
  rw [List.filter_eq_self.2 (by simp), zip_fst h]
theorem leftPairs_end {α : Type} {l : List α} {es : Array MapEntry} {sn : Array Nat} (h : (leftOf es sn).size = 0) : leftPairs l es sn = [] := by
  unfold leftPairs
  rw [List.map_eq_nil_iff, List.filter_eq_nil_iff]
  intro q hq hc
  have hm : q.2 ∈ es.toList := (List.of_mem_zip hq).2
  have : q.2 ∈ leftOf es sn := Array.mem_filter.2 ⟨Array.mem_toList_iff.1 hm, hc⟩
  have := Array.size_pos_of_mem this
  omega
theorem leftPairs_pick {α : Type} {l : List α} {es : Array MapEntry} {sn : Array Nat} {e : MapEntry} (hlen : l.length = es.toList.length) (hn : (es.toList.map (·.born)).Nodup) (he : e ∈ (leftOf es sn).toList) :
    ∃ p0, (p0, e) ∈ l.zip es.toList ∧ (leftPairs l es sn).Perm (p0 :: leftPairs l es (sn.push e.born)) := by
  obtain ⟨h1, h2⟩ := mem_left he
  obtain ⟨j, hj, rfl⟩ := List.getElem_of_mem h1
  have hjl : j < l.length := by omega
  refine ⟨l[j], ?_, ?_⟩
  · rw [List.mem_iff_getElem]
    exact ⟨j, by rw [List.length_zip]; omega, by simp⟩
  · have hz : ((l.zip es.toList).map fun q => q.2.born).Nodup := by
      have : (l.zip es.toList).map (fun q => q.2.born) = es.toList.map (·.born) := by
        rw [show (fun q : α × MapEntry => q.2.born) = (fun e : MapEntry => e.born) ∘ (fun q : α × MapEntry => q.2) from rfl, ← List.map_map, zip_snd hlen]
      rw [this]; exact hn
    have hq : (l[j], es.toList[j]) ∈ l.zip es.toList := by
      rw [List.mem_iff_getElem]
      exact ⟨j, by rw [List.length_zip]; omega, by simp⟩
    have := filt_perm (f := fun q : α × MapEntry => q.2.born) (P := fun q => !sn.contains q.2.born) _ hz hq (by simp only [h2, Bool.not_false])
    have h3 := this.map (·.1)
    unfold leftPairs
    refine h3.trans ?_
    rw [List.map_cons]
    refine List.Perm.of_eq ?_
    congr 2
    apply List.filter_congr
    intro x _
    rw [contains_push]
    cases sn.contains x.2.born <;> simp

/-- the code of a loop over a map: the iterator's slot, the slots of its step and its word, the way out -/
def rloopAt : Code → Option (Nat × Nat × Nat × Nat)
  | .loop (.seq (.region _ ops false) (.seq (.cond (.tmp c) .skip (.exit id)) _)) =>
    match ops.toList with
    | [o1, o2] => match o1.guard, o1.dst, o1.op, o2.guard, o2.dst, o2.op with
      | none, some dn, .next (.tmp t) false, none, some dx, .extract (.tmp dn') 0 => if dn' = dn ∧ c = dx then some (t, dn, dx, id) else none
      | _, _, _, _, _, _ => none
    | _ => none
  | _ => none

@[reducible] def rangeQ (st : Fr × LL) : Post := fun e fr L => e = .normal ∧ fr = st.1 ∧ L = st.2
theorem rangeQ_mk {st : Fr × LL} {fr : Fr} {L : LL} (h1 : fr = st.1) (h2 : L = st.2) : rangeQ st .normal fr L := ⟨rfl, h1, h2⟩

section
variable {C : Ctx} {B : Code} {p : List Nat} {Q : Post} {fr fr' : Fr} {L L' : LL}
theorem W_loopT {J : Post} (hl : isLoop (nav B p) = true) (T : Nat → Fr → LL → Prop)
    (hb : ∀ n fr L, T n fr L → W C (nav B (0 :: p)) (fun e fr' L' => (e = .normal ∧ ∃ n', n' < n ∧ T n' fr' L') ∨ (e ≠ .normal ∧ J e fr' L')) fr L) : ∀ n fr L, T n fr L → W C (nav B p) J fr L := by
  simp only [nav] at hb
  cases hc : nav B p <;> simp only [hc, isLoop, Bool.false_eq_true] at hl
  rename_i body
  simp only [hc, child] at hb
  have more : ∀ (m : Nat) (a : Act) (w : World), Code.roundsIn (FR C.rd) 0 C.P body (lift C J) m a w → Code.roundsIn (FR C.rd) 0 C.P body (lift C J) (m + 1) a w := by
    intro m
    induction m with
    | zero => intro a w h; exact h.elim
    | succ m ih =>
      intro a w h
      rw [roundsIn_succ] at h ⊢
      refine wpIn_mono h fun e a w hh => ?_
      cases e with
      | normal => exact ih a w hh
      | _ => exact hh
  have more' : ∀ (k m : Nat) (a : Act) (w : World), Code.roundsIn (FR C.rd) 0 C.P body (lift C J) m a w → Code.roundsIn (FR C.rd) 0 C.P body (lift C J) (m + k) a w := by
    intro k
    induction k with
    | zero => intro m a w h; exact h
    | succ k ih => intro m a w h; exact more _ a w (ih m a w h)
  have key : ∀ (n : Nat) (fr : Fr) (L : LL), T n fr L → ∀ (a : Act) (w : World), Rel C fr L a w → Code.roundsIn (FR C.rd) 0 C.P body (lift C J) (n + 1) a w := by
    intro n
    induction n using Nat.strongRecOn with
    | ind n ih =>
      intro fr L hT a w hr
      rw [roundsIn_succ]
      refine wpIn_mono (hb n fr L hT a w hr) ?_
      rintro e a1 w1 ⟨f1, l1, hrel, hor⟩
      rcases hor with ⟨rfl, n', hn', hT'⟩ | ⟨hne, hJ⟩
      · have h1 := more' (n - (n' + 1)) _ _ _ (ih n' hn' f1 l1 hT' a1 w1 hrel)
        rw [show n' + 1 + (n - (n' + 1)) = n by omega] at h1
        exact h1
      · cases e with
        | normal => exact (hne rfl).elim
        | _ => exact ⟨f1, l1, hrel, hJ⟩
  intro n fr L hT a w hr
  exact wpIn_loop_rounds (n + 1) (key n fr L hT a w hr)
end
end Go.Sl
namespace Go.Sl
open Go
section
variable {C : Ctx} {B : Code} {p : List Nat}
def flagsOk (n dn dx t : Nat) : Bool := decide (dn < n) && decide (dx < n) && !(dn == dx) && !(t == dn) && !(t == dx)
theorem W_rloop {X : Type} {k v : Ty} {b : (k.den × v.den) → X → Option X} {S : X → Array Nat → Fr × LL} {J : Post} {t it s dn dx id bi bm ck : Nat} {es : Array MapEntry} {l : List (k.den × v.den)} {x0 xf : X}
    (hl : rloopAt (nav B p) = some (t, dn, dx, id)) (hd : flagsOk C.n dn dx t = true)
    (hS1 : ∀ x sn, get (S x sn).1 t = some (.one (.ptr it 0))) (hS2 : ∀ x sn, get (S x sn).2 it = some (.raw bi (.mapIter (some bm) ck sn ck))) (hS3 : ∀ x sn, get (S x sn).2 s = some (.raw bm (.map es ck)))
    (hm : MapIs k v l es ck) (hrun : rangeM b l x0 = some xf)
    (hbody : ∀ p0 x x' sn e, e ∈ es.toList → (∀ h, ERel h k v p0 e) → b p0 x = some x' →
      W C (nav B (1 :: 1 :: 0 :: p)) (rangeQ (S x' (sn.push e.born))) (putF (putF (S x sn).1 dn (.one .any)) dx (aB true)) (put (S x sn).2 it (.raw bi (.mapIter (some bm) ck (sn.push e.born) ck))))
    (hend : ∀ sn, LT C J (.exit id) (putF (putF (S xf sn).1 dn (.one .any)) dx (aB false)) (put (del (S xf sn).2 it) s (.map k v (some l)))) : W C (nav B p) J (S x0 #[]).1 (S x0 #[]).2 := by
  have hrun := rangeM_some hrun
  unfold flagsOk at hd
  simp only [Bool.and_eq_true, decide_eq_true_eq, Bool.not_eq_true', beq_eq_false_iff_ne] at hd
  obtain ⟨⟨⟨⟨hdn, hdx⟩, hne⟩, htn⟩, htx⟩ := hd
  have hlen : l.length = es.toList.length := forall2_len (hm.all (fun _ => none))
  -- the code
  cases hc : nav B p <;> simp only [hc, rloopAt, reduceCtorEq] at hl
  rename_i body
  have hbd : ∃ rid ops rest o1 o2, body = .seq (.region rid ops false) (.seq (.cond (.tmp dx) .skip (.exit id)) rest) ∧ ops.toList = [o1, o2] ∧ o1.guard = none ∧ o1.dst = some dn ∧ o1.op = .next (.tmp t) false ∧ o2.guard = none ∧ o2.dst = some dx ∧ o2.op = .extract (.tmp dn) 0 := by
    split at hl
    · rename_i rid ops c id' rest heq
      simp only [Code.loop.injEq] at heq
      subst heq
      split at hl
      · rename_i o1 o2 hops
        split at hl
        · rename_i hg1 hd1 hop1 hg2 hd2 hop2
          split at hl
          · rename_i hcc
            simp only [Option.some.injEq, Prod.mk.injEq] at hl
            obtain ⟨rfl, rfl, rfl, rfl⟩ := hl
            obtain ⟨rfl, rfl⟩ := hcc
            exact ⟨rid, ops, rest, o1, o2, rfl, hops, hg1, hd1, hop1, hg2, hd2, hop2⟩
          · cases hl
        · cases hl
      · cases hl
    · cases hl
  obtain ⟨rid, ops, rest, o1, o2, rfl, hops, hg1, hd1, hop1, hg2, hd2, hop2⟩ := hbd
  have e0 : nav B (0 :: p) = .seq (.region rid ops false) (.seq (.cond (.tmp dx) .skip (.exit id)) rest) := by simp only [nav, hc, child]
  have er : nav B (1 :: 1 :: 0 :: p) = rest := by
    show child 1 (child 1 (nav B (0 :: p))) = rest
    rw [e0]; rfl
  rw [er] at hbody
  rw [← hc]
  refine W_loopT (by rw [hc]; rfl) (fun n fr L => ∃ x sn, fr = (S x sn).1 ∧ L = (S x sn).2 ∧ n = (leftOf es sn).size ∧ ∀ l', List.Perm l' (leftPairs l es sn) → forR b l' x = some xf) ?_ _ _ _ ⟨x0, #[], rfl, rfl, rfl, fun l' hp => hrun l' (by rw [leftPairs_none hlen] at hp; exact hp)⟩
  rintro n fr L ⟨x, sn, rfl, rfl, rfl, hall⟩
  rw [e0]
  rintro a w ⟨h, ρ, hr⟩
  obtain ⟨bi', hρ1, hv1⟩ := (hr.fr t _ (hS1 x sn)).2
  obtain ⟨hq1, hown1, hh1, hbi, _⟩ := hr.objs _ _ (hS2 x sn)
  obtain ⟨hq2, _, _, hbm, _⟩ := hr.objs _ _ (hS3 x sn)
  obtain rfl : bi = bi' := by rw [hq1] at hρ1; simpa [rawRef] using hρ1
  have hblk : Blk (ρ it) bi := by rw [hρ1]; rfl
  have hev1 : a.eval (.tmp t) = .pointer (some ⟨bi, 0, none⟩) := hv1
  -- the step, its word, and what they leave
  have hstep : ∀ (Q : Exit → Act → World → Prop), 
      (((leftOf es sn).size = 0 → ∀ a' w', Rel C (putF (putF (S x sn).1 dn (.one .any)) dx (aB false)) (S x sn).2 a' w' → Q .normal a' w') ∧
       (∀ e, e ∈ (leftOf es sn).toList → ∀ a' w', Rel C (putF (putF (S x sn).1 dn (.one .any)) dx (aB true)) (put (S x sn).2 it (.raw bi (.mapIter (some bm) ck (sn.push e.born) ck))) a' w' → Q .normal a' w')) →
      (Code.region rid ops false).wpIn (FR C.rd) 0 C.P Q a w := by
    rintro Q ⟨hQ1, hQ2⟩
    refine wpIn_mono (Q := fun e a w => e = .normal ∧ Q e a w) (wpIn_region_list (list_in (by rintro ⟨_, _, h, _⟩; cases h) _ _ _ (by rw [hops]; intro o ho; simp at ho; rcases ho with rfl | rfl <;> simp [hop1, hop2, plainOp]) ?_)) (fun _ _ _ hh => hh.2)
    rw [hops]
    have two : ∀ (bb : Bool) (vs : List Value) (w' : World) (L' : LL), (Instr.next (.pointer (some ⟨bi, 0, none⟩)) false o1.type).run C.P w = .ok (.tuple (Value.bool bb :: vs).toArray) w' → RelH C h ρ (S x sn).1 L' a w' → (∀ a' w', Rel C (putF (putF (S x sn).1 dn (.one .any)) dx (aB bb)) L' a' w' → Q .normal a' w') → wpList C.P ops (fun e a w => e = .normal ∧ Q e a w) [o1, o2] a w := by
      intro bb vs w' L' hrun1 hrel hQ
      refine wpList_step fun K hK => ?_
      rw [if_pos (by simp [Region.wanted, hg1])]
      unfold Oper.wp
      have hx1 : (execOp a.eval o1).run C.P w = .ok (.value (.tuple (Value.bool bb :: vs).toArray)) w' := by
        simp only [execOp, hop1, Sem.run_bind, hev1, hrun1, Result.andThen_ok]; rfl
      rw [hx1, Oper.upon_value, hd1]
      refine hK _ _ ?_
      have hr1 := hrel.putSlot dn (.one .any) (.tuple (Value.bool bb :: vs).toArray) hdn trivial
      refine wpList_step fun K hK => ?_
      rw [if_pos (by simp [Region.wanted, hg2])]
      unfold Oper.wp
      have hev2 : (a.put (some dn) (.tuple (Value.bool bb :: vs).toArray)).eval (.tmp dn) = .tuple (Value.bool bb :: vs).toArray := by
        simp [Act.eval, Act.put, hr.size, hdn]
      have hx2 : (execOp (a.put (some dn) (.tuple (Value.bool bb :: vs).toArray)).eval o2).run C.P w' = .ok (.value (.bool bb)) w' := by
        simp only [execOp, hop2, Sem.run_bind, hev2, Instr.extract]
        simp
      rw [hx2, Oper.upon_value, hd2]
      refine hK _ _ ?_
      exact wpList_nil ⟨rfl, hQ _ _ ⟨h, ρ, hr1.putSlot dx (aB bb) (.bool bb) hdx vrel_bool⟩⟩
    rcases run_next' (P := C.P) w o1.type bi bm ck sn es hbi hbm hm.st.2 with ⟨hz, hrun1⟩ | ⟨e, he, w1, hw1, hrun1⟩
    · exact two false [] w _ hrun1 hr (hQ1 hz)
    · refine two true [e.key, e.val] _ _ hrun1 ?_ (hQ2 e he)
      have hr1 : RelH C h ρ (S x sn).1 (S x sn).2 a w1 := by
        rcases hw1 with rfl | rfl
        · exact hr
        · exact ⟨hr.size, hr.defers, hr.fr, hr.heap, fun s o hs => (hr.objs s o hs).world fun _ _ => rfl, hr.apart, hr.ext, hr.fresh, hr.os, hr.tape, hr.output, hr.grow, hr.frame, hr.xs, hr.pin, hr.pinlo, hr.low⟩
      have hbi1 : w1.heap[bi]? = some (.mapIter (some bm) ck sn ck) := by rcases hw1 with rfl | rfl <;> exact hbi
      exact hr1.write it _ _ _ bi (hS2 x sn) hblk rfl rfl rfl (by simp) (fun k' _ hk => setHeap_other hk) ⟨hρ1, hown1, hh1, setHeap_at hbi1, fun _ e => by cases e⟩
  refine wpIn_seq (hstep _ ⟨fun hz a' w' hrel => ?_, fun e he a' w' hrel => ?_⟩)
  · -- none is left
    show (Code.seq (.cond (.tmp dx) .skip (.exit id)) rest).wpIn (FR C.rd) 0 C.P _ a' w'
    obtain ⟨h', ρ', hr'⟩ := hrel
    have hcv := boolOf_spec (b := false) (fun z hz => evS_sound hr'.fr (gd := none) (fun _ _ e => by cases e) hz) (show boolOf (evS _ none (.tmp dx)) = some false by simp [evS, putF, get, boolOf])
    have hxf : x = xf := by
      have := hall [] (by rw [leftPairs_end hz])
      simpa [forR] using this
    subst hxf
    refine wpIn_seq (wpIn_cond_false hcv (wpIn_exit ?_))
    have hcl : Rel C (putF (putF (S x sn).1 dn (.one .any)) dx (aB false)) (put (del (S x sn).2 it) s (.map k v (some l))) a' w' := by
      have hob := hr'.objs _ _ (hS3 x sn)
      obtain ⟨hqs, ho1, ho2, ho3, _⟩ := hob
      have hsi : s ≠ it := by
        rintro rfl
        have h1 := hS3 x sn
        rw [hS2 x sn] at h1
        simp only [Option.some.injEq, LObj.raw.injEq, reduceCtorEq, and_false] at h1
      have hg' : get (del (S x sn).2 it) s = some (.raw bm (.map es ck)) := by
        rw [get_del, if_neg (Ne.symm hsi)]; exact hS3 x sn
      have hdl : RelH C h' ρ' (putF (putF (S x sn).1 dn (.one .any)) dx (aB false)) (del (S x sn).2 it) a' w' := hr'.less (fun s' o' e' => by
        rw [get_del] at e'
        split at e'
        · cases e'
        · exact e')
      have hρs : ρ' s = .map (some bm) := hqs
      exact ⟨h', ρ', hdl.write s _ _ _ bm hg' (blockOf_ref hqs) rfl rfl rfl (Nat.le_refl _) (fun _ _ _ => rfl) (.inr ⟨bm, es, ck, l, rfl, hρs, ho1, ho2, ho3, hm.all h', hm.st⟩)⟩
    have := hend sn a' w' hcl
    obtain ⟨f, l', hrel', hJ⟩ := this
    simp only [Exit.then]
    exact ⟨f, l', hrel', .inr ⟨by simp, hJ⟩⟩
  · -- one more
    show (Code.seq (.cond (.tmp dx) .skip (.exit id)) rest).wpIn (FR C.rd) 0 C.P _ a' w'
    obtain ⟨h', ρ', hr'⟩ := hrel
    have hcv := boolOf_spec (b := true) (fun z hz => evS_sound hr'.fr (gd := none) (fun _ _ e => by cases e) hz) (show boolOf (evS _ none (.tmp dx)) = some true by simp [evS, putF, get, boolOf])
    refine wpIn_seq (wpIn_cond_true hcv (wpIn_skip ?_))
    show rest.wpIn (FR C.rd) 0 C.P _ a' w'
    obtain ⟨p0, hp0, hperm⟩ := leftPairs_pick hlen hm.st.1 he
    have hone : ∀ l'', List.Perm l'' (leftPairs l es (sn.push e.born)) → forR b (p0 :: l'') x = some xf := fun l'' hp => hall _ ((hp.cons p0).trans hperm.symm)
    obtain ⟨x', hb1, _⟩ : ∃ x', b p0 x = some x' ∧ True := by
      have := hone _ (List.Perm.refl _)
      rw [forR] at this
      obtain ⟨x', hx', _⟩ := Option.bind_eq_some_iff.1 this
      exact ⟨x', hx', trivial⟩
    refine wpIn_mono (hbody p0 x x' sn e (mem_left he).1 (fun hh => all2_zip (hm.all hh) _ hp0) hb1 a' w' ⟨h', ρ', hr'⟩) ?_
    rintro ex a2 w2 ⟨f, l', hrel2, rfl, rfl, rfl⟩
    refine ⟨_, _, hrel2, .inl ⟨rfl, _, left_shrinks es sn e he, x', sn.push e.born, rfl, rfl, rfl, fun l'' hp => ?_⟩⟩
    have := hone l'' hp
    rw [forR, hb1] at this
    exact this
end
end Go.Sl
namespace Go.Sl
open Go
/-- a variable's cells as one datum -/
def packF (L : LL) (s : Nat) (u : Ty) : Option LL :=
  match get L s with
  | some (.cells cs) => (impl u cs).map fun d => put L s (.one u d)
  | _ => none
def packT (L : LL) (s : Nat) (u : Ty) : LL := (packF L s u).getD L
section
variable {C : Ctx} {fr : Fr} {L : LL} {Q : Post} {c : Code} {ops : Array Oper} {e : Exit}
theorem Rel.pack {s : Nat} {u : Ty} {L' : LL} {a : Act} {w : World} (hr : Rel C fr L a w) (h : packF L s u = some L') : Rel C fr L' a w := by
  unfold packF at h
  split at h
  · rename_i cs hs
    obtain ⟨d, hd, rfl⟩ := Option.map_eq_some_iff.1 h
    obtain ⟨hh, ρ, hr⟩ := hr
    have key : ∀ t o, get (put L s (.one u d)) t = some o → ∃ o', get L t = some o' := by
      intro t o ho
      rw [get_put] at ho
      split at ho
      · rename_i e; subst e; exact ⟨_, hs⟩
      · exact ⟨o, ho⟩
    refine ⟨hh, ρ, { hr with objs := fun t o ho => ?_, apart := fun t t' o o' b hne ho ho' => ?_, low := fun t o b ho => ?_ }⟩
    · rw [get_put] at ho
      split at ho
      · rename_i hst; subst hst
        simp only [Option.some.injEq] at ho; subst ho
        obtain ⟨b, cur, e, h1, h2, h3, h4, h5, h6⟩ := hr.objs _ _ hs
        exact ⟨b, cur, e, h1, h2, h3, h4, impl_sound u cs d _ h5 hd⟩
      · exact hr.objs t o ho
    · obtain ⟨p, hp⟩ := key _ _ ho
      obtain ⟨p', hp'⟩ := key _ _ ho'
      exact hr.apart t t' p p' b hne hp hp'
    · obtain ⟨p, hp⟩ := key _ _ ho
      exact hr.low t p b hp
  · cases h
theorem W_pack (s : Nat) (u : Ty) (h : (packF L s u).isSome = true) (hw : W C c Q fr (packT L s u)) : W C c Q fr L := by
  obtain ⟨f, hf⟩ := Option.isSome_iff_exists.1 h
  unfold packT at hw; rw [hf] at hw
  exact fun a w hr => hw a w (hr.pack hf)
theorem WO_pack {j : Nat} (s : Nat) (u : Ty) (h : (packF L s u).isSome = true) (hw : WO C ops j Q fr (packT L s u)) : WO C ops j Q fr L := by
  obtain ⟨f, hf⟩ := Option.isSome_iff_exists.1 h
  unfold packT at hw; rw [hf] at hw
  exact fun a w hr => hw a w (hr.pack hf)
theorem LT_pack (s : Nat) (u : Ty) (h : (packF L s u).isSome = true) (hw : LT C Q e fr (packT L s u)) : LT C Q e fr L := by
  obtain ⟨f, hf⟩ := Option.isSome_iff_exists.1 h
  unfold packT at hw; rw [hf] at hw
  exact fun a w hr => hw a w (hr.pack hf)
end
end Go.Sl

/- What the arguments of a statement read as; from a contract to what a statement asks. -/
namespace Go.Sl
open Go

/-- a datum's numbers fit their kinds, its lists are of a machine's length -/
def Fits : (t : Ty) → t.den → Prop
  | .int k, n => (Lit.int k n).wf = true
  | .bool, _ => True
  | .str, s => s.size ≤ Go.maxLen
  | .slice t, xs => List.length xs ≤ 9223372036854775807 ∧ ∀ (i : Nat) (x : t.den), (show List t.den from xs)[i]? = some x → Fits t x
  | .pair t u, p => Fits t p.1 ∧ Fits u p.2
  | .wrap t, x => Fits t x
  | .arr n t, xs => List.length xs = n ∧ ∀ (i : Nat) (x : t.den), (show List t.den from xs)[i]? = some x → Fits t x
  | .tree, _ => True

def heapOf (w : World) : Heap := fun b => match w.heap[b]? with
  | some (.cells cur _ _) => some cur.toList
  | _ => none
theorem heapOf_ok (w : World) : HeapOk (heapOf w) w := by
  intro b cs h
  unfold heapOf at h
  split at h
  · rename_i cur e fz hb
    simp only [Option.some.injEq] at h; subst h
    exact ⟨cur, e, fz, hb, List.prefix_refl _⟩
  · cases h

def rdFs (P : Program) (rd : TypeId → Option Ty) : Nat → List Field → Option Ty
  | _, [] => none
  | off, [f] => match rd f.type with
    | some u => if f.offset = off ∧ P.cellsOf f.type = u.size then some u else none
    | none => none
  | off, f :: r => match rd f.type with
    | some u => if f.offset = off ∧ P.cellsOf f.type = u.size then (rdFs P rd (off + u.size) r).map (.pair u) else none
    | none => none

def rdTy (P : Program) : Nat → TypeId → Option Ty
  | 0, _ => none
  | n + 1, t =>
    match P.underlying t with
    | some (.int k) => some (.int k)
    | some .bool => some .bool
    | some .string => some .str
    | some (.slice e) => match rdTy P n e with
      | some u => if P.cellsOf e = u.size ∧ 0 < u.size then some (.slice u) else none
      | none => none
    | some (.array m e) => match rdTy P n e with
      | some u => if P.cellsOf e = u.size ∧ P.cellsOf t = m * u.size then some (.arr m u) else none
      | none => none
    | some (.struct fs) => match rdFs P (rdTy P n) 0 fs.toList with
      | some u => if P.cellsOf t = u.size then some (match fs.toList with | [_] => .wrap u | _ => u) else none
      | none => none
    | _ => none

section
variable {H : Type} {enc : TypeId × Value → H} {P : Program} {w : World} {spare : Nat → Bool} {held : Bool}

theorem cells_cut {a : Addr} {n : Nat} {cs : List Value} (hn : 0 < n) (h : w.cells? 0 a n = some cs) : ∃ blk, a = ⟨a.block, a.off, none⟩ ∧ heapOf w a.block = some blk ∧ a.off + n ≤ blk.length ∧ cs = cut blk a.off n := by
  obtain ⟨_, hl, hc⟩ := World.cells?_some h
  have h0 : w.cell? a = cs[0]? := by simpa [Addr.add] using hc 0 hn
  have h0' : (cs[0]?).isSome := by simp; omega
  rw [← h0] at h0'
  unfold World.cell? at h0'
  split at h0'
  · rename_i cur e fz hb
    have hs : a.spot = none := by
      cases hsp : a.spot with
      | none => rfl
      | some _ => simp [hsp] at h0'
    have each : ∀ i, i < n → cur[a.off + i]? = cs[i]? := by
      intro i hi
      rw [← hc i hi]
      have e1 : (a.add i).block = a.block := by unfold Addr.add; split <;> rfl
      have e2 : (a.add i).off = a.off + i := by unfold Addr.add; split <;> simp_all
      have e3 : (a.add i).spot = none := by unfold Addr.add; split <;> simp_all
      unfold World.cell?
      rw [e1, hb]
      simp [e2, e3]
    have hlen : a.off + n ≤ cur.size := by
      have := each (n - 1) (by omega)
      have h1 : (cs[n - 1]?).isSome := by simp; omega
      rw [← this] at h1
      simp at h1; omega
    refine ⟨cur.toList, ?_, by simp [heapOf, hb], by simpa using hlen, ?_⟩
    · cases a; simp_all
    · apply List.ext_getElem?
      intro i
      by_cases hi : i < n
      · rw [← each i hi]; unfold cut; rw [List.getElem?_take_of_lt hi, List.getElem?_drop]; simp
      · rw [List.getElem?_eq_none (by omega), List.getElem?_eq_none (by simp [cut]; omega)]
  · simp at h0'

theorem list_of {α : Type} {n : Nat} {Q : Nat → α → Prop} (h : ∀ i, i < n → ∃ x, Q i x) : ∃ xs : List α, xs.length = n ∧ ∀ i x, xs[i]? = some x → Q i x := by
  induction n with
  | zero => exact ⟨[], rfl, fun i x hx => by simp at hx⟩
  | succ n ih =>
    obtain ⟨xs, hl, hx⟩ := ih fun i hi => h i (by omega)
    obtain ⟨y, hy⟩ := h n (by omega)
    refine ⟨xs ++ [y], by simp [hl], fun i x hi => ?_⟩
    rcases Nat.lt_trichotomy i n with hlt | rfl | hgt
    · rw [List.getElem?_append_left (by omega)] at hi; exact hx i x hi
    · rw [List.getElem?_append_right (by omega)] at hi; simp [hl] at hi; subst hi; exact hy
    · rw [List.getElem?_eq_none (by simp [hl]; omega)] at hi; cases hi

theorem read_fs {rd : TypeId → Option Ty} {m : Nat}
    (ih : ∀ t u cs x, rd t = some u → DataW.trod enc P w 0 spare held m t cs = some x → ∃ d : u.den, rep (heapOf w) u d cs ∧ Fits u d) :
    ∀ (fs : List Field) (off : Nat) (u : Ty) (cs : List Value), rdFs P rd off fs = some u → off + u.size = cs.length →
      (∀ f ∈ fs, ∃ x, DataW.trod enc P w 0 spare held m f.type ((cs.drop f.offset).take (P.cellsOf f.type)) = some x) → ∃ d : u.den, rep (heapOf w) u d (cs.drop off) ∧ Fits u d
  | [], off, u, cs, hu, _, _ => by simp [rdFs] at hu
  | [f], off, u, cs, hu, hl, hf => by
    simp only [rdFs] at hu
    split at hu
    · rename_i v hv
      split at hu
      · rename_i hc
        obtain ⟨h1, h2⟩ := hc
        obtain rfl := Option.some.inj hu
        obtain ⟨x, hx⟩ := hf f (by simp)
        rw [h1, h2, List.take_of_length_le (by simp; omega)] at hx
        exact ih _ _ _ _ hv hx
      · cases hu
    · cases hu
  | f :: g :: r, off, u, cs, hu, hl, hf => by
    simp only [rdFs] at hu
    split at hu
    · rename_i v hv
      split at hu
      · rename_i hc
        obtain ⟨h1, h2⟩ := hc
        obtain ⟨v2, hv2, rfl⟩ := Option.map_eq_some_iff.1 hu
        simp only [Ty.size] at hl
        obtain ⟨x, hx⟩ := hf f (by simp)
        rw [h1, h2] at hx
        obtain ⟨d1, hd1, hf1⟩ := ih _ _ _ _ hv hx
        obtain ⟨d2, hd2, hf2⟩ := read_fs ih (g :: r) (off + v.size) v2 cs hv2 (by omega) (fun f' hf' => hf f' (by simp [hf']))
        refine ⟨(d1, d2), ⟨_, _, ?_, hd1, hd2⟩, hf1, hf2⟩
        rw [← List.drop_drop, List.take_append_drop]
      · cases hu
    · cases hu

theorem read_ty : ∀ (n m : Nat) (t : TypeId) (u : Ty) (cs : List Value) (x : DataW H × List MemPlace), rdTy P n t = some u → DataW.trod enc P w 0 spare held m t cs = some x →
    ∃ d : u.den, rep (heapOf w) u d cs ∧ Fits u d
  | 0, m, t, u, cs, x, hu, _ => by simp [rdTy] at hu
  | n + 1, m, t, u, cs, x, hu, hx => by
    unfold rdTy at hu
    split at hu
    · rename_i k ht
      obtain rfl := Option.some.inj hu
      obtain ⟨z, rfl, _, hw⟩ := DataW.trod_int ht hx
      exact ⟨z, rfl, hw⟩
    · rename_i ht
      obtain rfl := Option.some.inj hu
      obtain ⟨b, rfl, _⟩ := DataW.trod_bool ht hx
      exact ⟨b, rfl, trivial⟩
    · rename_i ht
      obtain rfl := Option.some.inj hu
      obtain ⟨s, rfl, _, hs⟩ := DataW.trod_string ht hx
      exact ⟨s, rfl, hs⟩
    · rename_i e ht
      split at hu
      · rename_i v hv
        split at hu
        · rename_i hc
          obtain ⟨hsz, hpos⟩ := hc
          obtain rfl := Option.some.inj hu
          rcases DataW.trod_slice ht hx with ⟨rfl, _⟩ | ⟨a, len, cap, elems, rest, m', _, rfl, _, _, hlc, hcm, hel, hat, _, _⟩
          · exact ⟨([] : List v.den), ⟨none, 0, rfl, Nat.zero_le _, Nat.zero_le _, .inl rfl⟩, Nat.zero_le _, fun i x hx => by simp at hx⟩
          · have each : ∀ i, i < len → ∃ d : v.den, ∃ blk, a = ⟨a.block, a.off, none⟩ ∧ heapOf w a.block = some blk ∧ a.off + i * v.size + v.size ≤ blk.length ∧ rep (heapOf w) v d (cut blk (a.off + i * v.size) v.size) ∧ Fits v d := by
              intro i hi
              have h1 := hat i hi
              have h2 : (elems[i]?).isSome := by simp; omega
              rw [← h1] at h2
              obtain ⟨y, hy⟩ := Option.isSome_iff_exists.1 h2
              obtain ⟨cs', hcs, hy'⟩ := Option.bind_eq_some_iff.1 hy
              rw [hsz] at hcs
              obtain ⟨blk, ha, hb, hl, rfl⟩ := cells_cut hpos hcs
              obtain ⟨d, hd, hf⟩ := read_ty n _ _ _ _ _ hv hy'
              have e1 : (a.add (i * v.size)).block = a.block := by unfold Addr.add; split <;> rfl
              have e2 : (a.add (i * v.size)).off = a.off + i * v.size := by
                unfold Addr.add; split
                · omega
                · rfl
              have e3 : a = ⟨a.block, a.off, none⟩ := by
                by_cases hi0 : i * v.size = 0
                · rw [hi0] at ha; simpa [Addr.add] using ha
                · -- the first element tells
                  have h1 := hat 0 (by omega)
                  have h2 : (elems[0]?).isSome := by simp; omega
                  rw [← h1] at h2
                  obtain ⟨y, hy⟩ := Option.isSome_iff_exists.1 h2
                  obtain ⟨cs', hcs, _⟩ := Option.bind_eq_some_iff.1 hy
                  rw [hsz] at hcs
                  obtain ⟨_, ha, _⟩ := cells_cut hpos hcs
                  simpa [Addr.add] using ha
              rw [e1] at hb; rw [e2] at hl hd
              exact ⟨d, blk, e3, hb, hl, hd, hf⟩
            obtain ⟨xs, hxl, hxs⟩ := list_of each
            have hxl' : List.length xs = len := hxl
            refine ⟨xs, ⟨some a, cap, by rw [hxl'], ?_, by omega, ?_⟩, ?_, fun i x hi => ?_⟩
            · rw [hxl']; unfold maxSl; have : cap ≤ 2 ^ 63 - 1 := hcm; omega
            · by_cases h0 : len = 0
              · left; exact List.eq_nil_of_length_eq_zero (by omega)
              · right
                obtain ⟨_, blk, e3, hb, _⟩ := each 0 (by omega)
                refine ⟨a.block, a.off, blk, by rw [← e3], hb, ?_, fun i x hi => ?_⟩
                · obtain ⟨_, blk', _, hb', hl, _⟩ := each (len - 1) (by omega)
                  rw [hb] at hb'; obtain rfl := Option.some.inj hb'
                  rw [hxl']
                  have : len * v.size = (len - 1) * v.size + v.size := by
                    have : len = (len - 1) + 1 := by omega
                    conv => lhs; rw [this]
                    rw [Nat.add_mul, Nat.one_mul]
                  omega
                · obtain ⟨blk', _, hb', _, hd, _⟩ := hxs i x hi
                  rw [hb] at hb'; obtain rfl := Option.some.inj hb'
                  exact hd
            · rw [hxl']; have : cap ≤ 2 ^ 63 - 1 := hcm; omega
            · obtain ⟨_, _, _, _, _, hf⟩ := hxs i x hi
              exact hf
        · cases hu
      · cases hu
    · rename_i k e ht
      split at hu
      · rename_i v hv
        split at hu
        · rename_i hc
          obtain ⟨hsz, htot⟩ := hc
          obtain rfl := Option.some.inj hu
          obtain ⟨xs, m', _, _, hlen, hxl, hat⟩ := DataW.trod_array ht hx
          have each : ∀ i, i < k → ∃ d : v.den, rep (heapOf w) v d (cut cs (i * v.size) v.size) ∧ Fits v d := by
            intro i hi
            have h1 := hat i hi
            have h2 : (xs[i]?).isSome := by simp; omega
            rw [← h1, hsz] at h2
            obtain ⟨y, hy⟩ := Option.isSome_iff_exists.1 h2
            exact read_ty n _ _ _ _ _ hv hy
          obtain ⟨ys, hyl, hys⟩ := list_of each
          exact ⟨ys, ⟨hyl, by rw [hlen, htot], fun i x hi => (hys i x hi).1⟩, hyl, fun i x hi => (hys i x hi).2⟩
        · cases hu
      · cases hu
    · rename_i fs ht
      split at hu
      · rename_i v hv
        split at hu
        · rename_i hc
          obtain ⟨xs, m', hm, _, hlen, hxl, hat⟩ := DataW.trod_struct ht hx
          have key : ∃ d : v.den, rep (heapOf w) v d cs ∧ Fits v d := by
            have := read_fs (enc := enc) (P := P) (w := w) (spare := spare) (held := held) (m := m') (fun t u cs x h1 h2 => read_ty n m' t u cs x h1 h2) fs.toList 0 v cs hv (by omega) (fun f hf => by
              obtain ⟨i, hi⟩ := List.getElem?_of_mem hf
              have h1 := hat i f (by simpa using hi)
              have h2 : (xs[i]?).isSome := by
                have := (List.getElem?_eq_some_iff.1 hi).1
                simp at this ⊢; omega
              rw [← h1] at h2
              exact Option.isSome_iff_exists.1 h2)
            simpa using this
          obtain ⟨d, hd, hf⟩ := key
          split at hu
          · obtain rfl := Option.some.inj hu
            exact ⟨d, hd, hf⟩
          · obtain rfl := Option.some.inj hu
            exact ⟨d, hd, hf⟩
        · cases hu
      · cases hu
    · cases hu
termination_by n => n
end
end Go.Sl

namespace Go.Sl
open Go Go.RowKit
/-- what a contract without objects says of a world -/
theorem Out.below {h h' : Heap} {ρ ρ' : Nat → Value} {w w' : World} {Lout : LL} (o : Out h ρ w [] h' ρ' w' Lout) : Below w.heap.size w w' :=
  ⟨o.os, o.tape, o.output, o.grow, fun k hk => o.frame k hk fun s x hs => by simp [get] at hs⟩

/-- from a contract to what a statement asks -/
theorem law_of {P : Program} {f : Nat} {args : List AV} {b : Bool} {w : World} {vs : List Value} (hF : FnC P f args [] (aB b) []) (hb : b = true) (ha : All2 (VRel (heapOf w) (fun _ => undef) #[]) args vs) :
    Calls P f vs.toArray w fun e w' => e = .returned (.bool true) ∧ Below w.heap.size w w' := by
  subst hb
  refine (hF (heapOf w) (fun _ => undef) w vs (heapOf_ok w) (fun s o hs => by simp [get] at hs) (fun s s' o o' b _ hs => by simp [get] at hs) ha).mono ?_
  rintro e w' ⟨v, h', ρ', rfl, hv, ho⟩
  have : v = .bool true := (repV_bool (h := h')).1 hv
  subst this
  exact ⟨rfl, ho.below⟩

/-- an argument read -/
theorem read_arg {H : Type} {enc : TypeId × Value → H} {P : Program} {w : World} {spare : Nat → Bool} {held : Bool} {r : Reach} {base : Nat} {t : TypeId} {u : Ty} {v : Value} {d : DataW H} {ps : List MemPlace}
    (hu : rdTy P 12 t = some u) (hag : aggOf P t = some u.isAgg) (hf : Value.okWide P w r base t v) (h : DataW.Trod enc P w 0 spare held t v d ps) : ∃ x : u.den, Fits u x ∧ ∀ ρ tm, VRel (heapOf w) ρ tm (aD u x) v := by
  obtain ⟨fuel, hx⟩ := h
  obtain ⟨x, hr, hfit⟩ := read_ty 12 fuel t u _ _ hu hx
  refine ⟨x, hfit, fun ρ tm => ?_⟩
  show RepV (heapOf w) u x v
  unfold RepV
  unfold aggOf at hag
  cases ha : u.isAgg with
  | true =>
    rw [if_pos rfl]
    rw [ha] at hag
    unfold Value.okWide at hf
    split at hag
    · rename_i fs ht
      rw [ht] at hf
      obtain ⟨cs, rfl, _⟩ := hf
      exact ⟨cs, rfl, hr⟩
    · rename_i n e ht
      rw [ht] at hf
      obtain ⟨cs, rfl, _⟩ := hf
      exact ⟨cs, rfl, hr⟩
    · simp at hag
    · simp at hag
  | false =>
    rw [if_neg (by simp)]
    have key : v.cells.toList = [v] := by
      unfold rdTy at hu
      split at hu
      · rename_i ht; obtain ⟨n, rfl⟩ := WideShapes.okWide_int ht hf; rfl
      · rename_i ht; obtain ⟨n, rfl⟩ := WideShapes.okWide_bool ht hf; rfl
      · rename_i ht; obtain ⟨n, rfl⟩ := WideShapes.okWide_string ht hf; rfl
      · rename_i ht; obtain ⟨a, b, c, rfl⟩ := WideShapes.okWide_slice ht hf; rfl
      · rename_i n e ht
        rw [ht] at hag
        simp [ha] at hag
      · rename_i fs ht
        rw [ht] at hag
        simp [ha] at hag
      · cases hu
    rw [key] at hr
    exact hr
end Go.Sl

/- Plain facts that the laws use. -/
namespace Go.Sl
open Go

theorem Fits.i64 {x : Int} (h : Fits (.int .i64) x) : -9223372036854775808 ≤ x ∧ x ≤ 9223372036854775807 := by
  have h1 : (decide (IntKind.i64.min ≤ x) && decide (x ≤ IntKind.i64.max)) = true := h
  simp only [Bool.and_eq_true, decide_eq_true_eq] at h1
  have a : IntKind.i64.min = -9223372036854775808 := by decide
  have b : IntKind.i64.max = 9223372036854775807 := by decide
  omega
theorem Fits.lo {x : Int} (h : Fits (.int .i64) x) : -9223372036854775808 ≤ x := h.i64.1
theorem Fits.hi {x : Int} (h : Fits (.int .i64) x) : x ≤ 9223372036854775807 := h.i64.2
theorem Fits.u8 {x : Int} (h : Fits (.int .u8) x) : 0 ≤ x ∧ x ≤ 255 := by
  have h1 : (decide (IntKind.u8.min ≤ x) && decide (x ≤ IntKind.u8.max)) = true := h
  simp only [Bool.and_eq_true, decide_eq_true_eq] at h1
  have a : IntKind.u8.min = 0 := by decide
  have b : IntKind.u8.max = 255 := by decide
  omega
theorem Fits.u32 {x : Int} (h : Fits (.int .u32) x) : 0 ≤ x ∧ x ≤ 4294967295 := by
  have h1 : (decide (IntKind.u32.min ≤ x) && decide (x ≤ IntKind.u32.max)) = true := h
  simp only [Bool.and_eq_true, decide_eq_true_eq] at h1
  have a : IntKind.u32.min = 0 := by decide
  have b : IntKind.u32.max = 4294967295 := by decide
  omega
theorem Fits.u64 {x : Int} (h : Fits (.int .u64) x) : 0 ≤ x ∧ x ≤ 18446744073709551615 := by
  have h1 : (decide (IntKind.u64.min ≤ x) && decide (x ≤ IntKind.u64.max)) = true := h
  simp only [Bool.and_eq_true, decide_eq_true_eq] at h1
  have a : IntKind.u64.min = 0 := by decide
  have b : IntKind.u64.max = 18446744073709551615 := by decide
  omega
theorem Fits.len {t : Ty} {xs : List t.den} (h : Fits (.slice t) xs) : (xs.length : Int) ≤ 9223372036854775807 := by
  have := h.1
  have h2 : List.length xs ≤ 9223372036854775807 := this
  omega
theorem Fits.get {t : Ty} {xs : List t.den} (h : Fits (.slice t) xs) {i : Nat} {x : t.den} (hx : xs[i]? = some x) : Fits t x := h.2 i x hx
theorem Fits.mem {t : Ty} {xs : List t.den} (h : Fits (.slice t) xs) {x : t.den} (hx : x ∈ xs) : Fits t x := by
  obtain ⟨i, hi⟩ := List.getElem?_of_mem hx
  exact h.2 i x hi

theorem ck_ok {p : Prop} [Decidable p] (h : p) : ck p = some () := by unfold ck; rw [if_pos h]
theorem idx_nat {α : Type} {xs : List α} {n : Nat} : idx xs (n : Int) = xs[n]? := by unfold idx; rw [if_pos (by omega)]; simp
theorem idx_get {α : Type} {xs : List α} {i : Int} (h0 : 0 ≤ i) (h1 : i < (xs.length : Int)) : ∃ x, idx xs i = some x ∧ xs[i.toNat]? = some x := by
  have : i.toNat < xs.length := by omega
  exact ⟨xs[i.toNat], by unfold idx; rw [if_pos h0]; exact List.getElem?_eq_getElem this, List.getElem?_eq_getElem this⟩
theorem bif_t {α : Type} {c : Bool} {a b : α} (h : c = true) : (bif c then a else b) = a := by subst h; rfl
theorem bif_f {α : Type} {c : Bool} {a b : α} (h : c = false) : (bif c then a else b) = b := by subst h; rfl
theorem bif_some {α : Type} {c : Bool} {a b : α} : (bif c then some a else some b) = some (bif c then a else b) := by cases c <;> rfl
theorem bind_some' {α β : Type} {a : α} {f : α → Option β} : (some a).bind f = f a := rfl

/-- a counted loop, stepped -/
theorem loopI_inv {X Y : Type} {body : Int → X → Option (Flow X Y)} {fin : X → Y} {hi : Int} (Inv : Int → X → Prop) (Post : Y → Prop)
    (hstep : ∀ i x, i < hi → Inv i x → ∃ s, body i x = some s ∧ (match s with | .next x' => Inv (i + 1) x' | .done y => Post y)) (hfin : ∀ i x, hi ≤ i → Inv i x → Post (fin x)) :
    ∀ (k : Nat) (i : Int) (x : X), (hi - i).toNat = k → Inv i x → ∃ y, loopI body fin k i x = some y ∧ Post y
  | 0, i, x, hk, h => ⟨fin x, rfl, hfin i x (by omega) h⟩
  | k + 1, i, x, hk, h => by
    obtain ⟨s, hs, hp⟩ := hstep i x (by omega) h
    simp only [loopI, hs]
    cases s with
    | next x' => exact loopI_inv Inv Post hstep hfin k (i + 1) x' (by omega) hp
    | done y => exact ⟨y, rfl, hp⟩
theorem forI_inv {X Y : Type} {body : Int → X → Option (Flow X Y)} {fin : X → Y} {lo hi : Int} {x : X} (Inv : Int → X → Prop) (Post : Y → Prop) (h1 : -9223372036854775808 ≤ lo) (h2 : hi ≤ 9223372036854775807) (h0 : Inv lo x)
    (hstep : ∀ i x, lo ≤ i → i < hi → Inv i x → ∃ s, body i x = some s ∧ (match s with | .next x' => Inv (i + 1) x' | .done y => Post y)) (hfin : ∀ i x, lo ≤ i → hi ≤ i → (i = lo ∨ i = hi) → Inv i x → Post (fin x)) :
    ∃ y, forI lo hi body fin x = some y ∧ Post y := by
  unfold forI
  rw [if_pos ⟨h1, h2⟩]
  refine loopI_inv (fun i x => lo ≤ i ∧ (i = lo ∨ i ≤ hi) ∧ Inv i x) Post ?_ ?_ _ lo x rfl ⟨by omega, .inl rfl, h0⟩
  · rintro i x hi ⟨hl, _, hv⟩
    obtain ⟨s, hs, hp⟩ := hstep i x hl hi hv
    refine ⟨s, hs, ?_⟩
    cases s with
    | next x' => exact ⟨by omega, .inr (by omega), hp⟩
    | done y => exact hp
  · rintro i x hi ⟨hl, hh, hv⟩
    exact hfin i x hl hi (by omega) hv
theorem forL_inv' {α X Y : Type} {body : Int → α → X → Option (Flow X Y)} {fin : X → Y} {l : List α} (Inv : Nat → X → Prop) (Post : Y → Prop)
    (hstep : ∀ (n : Nat) a x, l[n]? = some a → Inv n x → ∃ s, body n a x = some s ∧ (match s with | .next x' => Inv (n + 1) x' | .done y => Post y)) (hfin : ∀ x, Inv l.length x → Post (fin x)) :
    ∀ (r p : List α) (x : X), l = p ++ r → Inv p.length x → ∃ y, forL body fin r (p.length : Int) x = some y ∧ Post y
  | [], p, x, hp, h => ⟨fin x, rfl, hfin x (by subst hp; simpa using h)⟩
  | a :: r, p, x, hp, h => by
    obtain ⟨s, hs, hq⟩ := hstep p.length a x (by subst hp; simp) h
    simp only [forL, hs]
    cases s with
    | next x' =>
      have := forL_inv' Inv Post hstep hfin r (p ++ [a]) x' (by simp [hp]) (by simpa using hq)
      simpa using this
    | done y => exact ⟨y, rfl, hq⟩
theorem forL_inv {α X Y : Type} {body : Int → α → X → Option (Flow X Y)} {fin : X → Y} {l : List α} {x : X} (Inv : Nat → X → Prop) (Post : Y → Prop) (h0 : Inv 0 x)
    (hstep : ∀ (n : Nat) a x, l[n]? = some a → Inv n x → ∃ s, body n a x = some s ∧ (match s with | .next x' => Inv (n + 1) x' | .done y => Post y)) (hfin : ∀ x, Inv l.length x → Post (fin x)) :
    ∃ y, forL body fin l 0 x = some y ∧ Post y := by
  simpa using forL_inv' Inv Post hstep hfin l [] x rfl h0
/-- a loop with fuel, by a measure -/
theorem iter_inv {X Y : Type} {f : X → Option (Flow X Y)} (Inv : X → Prop) (m : X → Nat) (Post : Y → Prop)
    (hstep : ∀ x, Inv x → ∃ s, f x = some s ∧ (match s with | .next x' => Inv x' ∧ m x' < m x | .done y => Post y)) :
    ∀ (n : Nat) (x : X), m x < n → Inv x → ∃ y, iter f n x = some y ∧ Post y
  | 0, x, hn, _ => by omega
  | n + 1, x, hn, h => by
    obtain ⟨s, hs, hp⟩ := hstep x h
    simp only [iter, hs]
    cases s with
    | next x' => exact iter_inv Inv m Post hstep n x' (by omega) hp.1
    | done y => exact ⟨y, rfl, hp⟩

/-- a loop that looks for the first element that is bad -/
theorem forL_ex {α Y : Type} {body : Int → α → Unit → Option (Flow Unit Y)} {fin : Unit → Y} {p : α → Bool} {y : Y} : ∀ {l : List α}, (∀ i a, a ∈ l → body i a () = some (bif p a then .done y else .next ())) → ∀ {i : Int}, forL body fin l i () = some (bif l.any p then y else fin ())
  | [], _, i => rfl
  | a :: l, hb, i => by
    simp only [forL, hb i a (by simp), List.any_cons]
    cases hp : p a with
    | true => rfl
    | false => simpa using forL_ex (fun i a ha => hb i a (by simp [ha]))
theorem forL_at {α Y : Type} {body : Int → α → Unit → Option (Flow Unit Y)} {fin : Unit → Y} {p : α → Bool} {g : Int → Y} : ∀ {l : List α}, (∀ i a, a ∈ l → body i a () = some (bif p a then .done (g i) else .next ())) → ∀ {i : Int},
    (l.any p = false ∧ forL body fin l i () = some (fin ())) ∨ (l.any p = true ∧ ∃ j, i ≤ j ∧ j < i + l.length ∧ forL body fin l i () = some (g j))
  | [], _, i => .inl ⟨rfl, rfl⟩
  | a :: l, hb, i => by
    simp only [forL, hb i a (by simp), List.any_cons]
    cases hp : p a with
    | true => exact .inr ⟨rfl, i, by omega, by simp; omega, rfl⟩
    | false =>
      rcases forL_at (body := body) (fin := fin) (p := p) (g := g) (l := l) (fun i a ha => hb i a (List.mem_cons_of_mem _ ha)) (i := i + 1) with ⟨h1, h2⟩ | ⟨h1, j, h2, h3, h4⟩
      · exact .inl ⟨by simpa using h1, h2⟩
      · exact .inr ⟨by simpa using h1, j, by omega, by simp only [List.length_cons]; omega, h4⟩
/-- a loop that goes through -/
theorem forL_fold {α X Y : Type} {body : Int → α → X → Option (Flow X Y)} {fin : X → Y} {g : X → α → X} : ∀ {l : List α}, (∀ i a x, a ∈ l → body i a x = some (.next (g x a))) → ∀ {i : Int} {x : X}, forL body fin l i x = some (fin (l.foldl g x))
  | [], _, i, x => rfl
  | a :: l, hb, i, x => by
    simp only [forL, hb i a x (by simp), List.foldl_cons]
    exact forL_fold (fun i a x ha => hb i a x (by simp [ha]))
theorem forL_congr {α X Y : Type} {body body' : Int → α → X → Option (Flow X Y)} {fin : X → Y} : ∀ {l : List α}, (∀ i a x, a ∈ l → body i a x = body' i a x) → ∀ {i : Int} {x : X}, forL body fin l i x = forL body' fin l i x
  | [], _, i, x => rfl
  | a :: l, hb, i, x => by
    simp only [forL, hb i a x (by simp)]
    cases body' i a x with
    | none => rfl
    | some s => cases s with
      | next x' => exact forL_congr (fun i a x ha => hb i a x (by simp [ha]))
      | done y => rfl
theorem and_dec {p q : Prop} [Decidable p] [Decidable q] : (decide p && decide q) = decide (p ∧ q) := (Bool.decide_and p q).symm
theorem or_dec {p q : Prop} [Decidable p] [Decidable q] : (decide p || decide q) = decide (p ∨ q) := (Bool.decide_or p q).symm
theorem not_dec {p : Prop} [Decidable p] : (!decide p) = decide (¬ p) := by by_cases h : p <;> simp [h]
end Go.Sl

/- Words as bits; loops side by side. -/
namespace Go.Sl
open Go

theorem wrap_i64 {n : Int} (h1 : -9223372036854775808 ≤ n) (h2 : n ≤ 9223372036854775807) : IntKind.wrap .i64 n = n := w64_id h1 h2
theorem wrap_u64 {n : Int} (h1 : 0 ≤ n) (h2 : n ≤ 18446744073709551615) : IntKind.wrap .u64 n = n := by
  unfold IntKind.wrap
  simp only [IntKind.bits, IntKind.signed, Bool.false_and, Int.reducePow, Nat.reduceSub, Bool.false_eq_true, if_false]
  omega
theorem wrap_u32 {n : Int} (h1 : 0 ≤ n) (h2 : n ≤ 4294967295) : IntKind.wrap .u32 n = n := by
  unfold IntKind.wrap
  simp only [IntKind.bits, IntKind.signed, Bool.false_and, Int.reducePow, Nat.reduceSub, Bool.false_eq_true, if_false]
  omega
theorem wrap_u8 {n : Int} (h1 : 0 ≤ n) (h2 : n ≤ 255) : IntKind.wrap .u8 n = n := by
  unfold IntKind.wrap
  simp only [IntKind.bits, IntKind.signed, Bool.false_and, Int.reducePow, Nat.reduceSub, Bool.false_eq_true, if_false]
  omega
theorem wnat {n : Nat} (h : n ≤ 9223372036854775807) : w64 (n : Int) = n := w64_id (by omega) (by omega)

theorem toNat_ofInt (k a : Nat) : (BitVec.ofInt k (a : Int)).toNat = a % 2 ^ k := by
  rw [BitVec.ofInt_natCast, BitVec.toNat_ofNat]
theorem bAnd_nat {a b : Nat} (ha : a < 2 ^ 63) (hb : b < 2 ^ 63) : bAnd .i64 a b = ((a &&& b : Nat) : Int) := by
  unfold bAnd
  rw [BitVec.toNat_and, toNat_ofInt, toNat_ofInt, show IntKind.i64.bits = 64 from rfl, Nat.mod_eq_of_lt (by omega), Nat.mod_eq_of_lt (by omega)]
  have : a &&& b ≤ a := Nat.and_le_left
  exact wrap_i64 (by omega) (by omega)
theorem bOr_nat {a b : Nat} (ha : a < 2 ^ 63) (hb : b < 2 ^ 63) : bOr .i64 a b = ((a ||| b : Nat) : Int) := by
  unfold bOr
  rw [BitVec.toNat_or, toNat_ofInt, toNat_ofInt, show IntKind.i64.bits = 64 from rfl, Nat.mod_eq_of_lt (by omega), Nat.mod_eq_of_lt (by omega)]
  have : a ||| b < 2 ^ 63 := Nat.or_lt_two_pow ha hb
  exact wrap_i64 (by omega) (by omega)
theorem bXor_nat {a b : Nat} (ha : a < 2 ^ 63) (hb : b < 2 ^ 63) : bXor .i64 a b = ((a ^^^ b : Nat) : Int) := by
  unfold bXor
  rw [BitVec.toNat_xor, toNat_ofInt, toNat_ofInt, show IntKind.i64.bits = 64 from rfl, Nat.mod_eq_of_lt (by omega), Nat.mod_eq_of_lt (by omega)]
  have : a ^^^ b < 2 ^ 63 := Nat.xor_lt_two_pow ha hb
  exact wrap_i64 (by omega) (by omega)
theorem bShl_one {i : Nat} (hi : i < 63) : bShl .i64 1 (i : Int) = ((2 ^ i : Nat) : Int) := by
  unfold bShl
  have : (2 : Nat) ^ i < 2 ^ 63 := Nat.pow_lt_pow_right (by omega) hi
  rw [Int.toNat_natCast, show IntKind.i64.bits = 64 from rfl, Nat.min_eq_left (by omega), Int.one_mul]
  have e : ((2 : Int) ^ i) = ((2 ^ i : Nat) : Int) := by simp
  rw [e]
  generalize (2 : Nat) ^ i = q at this ⊢
  exact wrap_i64 (by omega) (by omega)
theorem bShr_nat {k : IntKind} {a i : Nat} (hi : i < 8) : bShr k a (i : Int) = ((a / 2 ^ i : Nat) : Int) := by
  unfold bShr
  have : i ≤ k.bits := by cases k <;> simp [IntKind.bits] <;> omega
  rw [Int.toNat_natCast, Nat.min_eq_left this]
  have e : ((2 : Int) ^ i) = ((2 ^ i : Nat) : Int) := by simp
  rw [e, Int.natCast_ediv, Int.fdiv_eq_ediv_of_nonneg _ (Int.natCast_nonneg _)]
theorem bShr_nat64 {a i : Nat} (hi : i < 64) : bShr .i64 a (i : Int) = ((a / 2 ^ i : Nat) : Int) := by
  unfold bShr
  rw [Int.toNat_natCast, show IntKind.i64.bits = 64 from rfl, Nat.min_eq_left (by omega)]
  have e : ((2 : Int) ^ i) = ((2 ^ i : Nat) : Int) := by simp
  rw [e, Int.natCast_ediv, Int.fdiv_eq_ediv_of_nonneg _ (Int.natCast_nonneg _)]
theorem and_pow (w i : Nat) : w &&& 2 ^ i = if w.testBit i then 2 ^ i else 0 := by
  apply Nat.eq_of_testBit_eq
  intro j
  rw [Nat.testBit_and, Nat.testBit_two_pow]
  by_cases h : i = j
  · subst h
    cases h2 : w.testBit i <;> simp [Nat.testBit_two_pow]
  · cases h2 : w.testBit i <;> simp [h, Nat.testBit_two_pow]
/-- a bit, asked for by a mask -/
theorem bit_mask {w i : Nat} (hw : w < 2 ^ 63) (hi : i < 63) : (bAnd .i64 w (bShl .i64 1 (i : Int)) != 0) = w.testBit i := by
  have : (2 : Nat) ^ i < 2 ^ 63 := Nat.pow_lt_pow_right (by omega) hi
  rw [bShl_one hi, bAnd_nat hw this, and_pow]
  have : 0 < (2 : Nat) ^ i := Nat.pow_pos (by omega)
  cases w.testBit i with
  | false => simp
  | true =>
    generalize (2 : Nat) ^ i = q at this ⊢
    simp; omega
/-- a bit, asked for by a shift -/
theorem bit_shift {w i : Nat} (hw : w < 2 ^ 63) (hi : i < 64) : (bAnd .i64 (bShr .i64 w (i : Int)) 1 == 1) = w.testBit i := by
  have h1 : w / 2 ^ i ≤ w := Nat.div_le_self _ _
  rw [bShr_nat64 hi, show (1 : Int) = ((1 : Nat) : Int) from rfl, bAnd_nat (by omega) (by omega), Nat.and_one_is_mod, Nat.testBit_eq_decide_div_mod_eq]
  have h2 := Nat.mod_two_eq_zero_or_one (w / 2 ^ i)
  rcases h2 with h | h <;> rw [h] <;> rfl

/-! ### loops side by side -/
theorem forL_rel' {α α' X X' Y Y' : Type} {body : Int → α → X → Option (Flow X Y)} {body' : Int → α' → X' → Option (Flow X' Y')} {fin : X → Y} {fin' : X' → Y'} {l : List α} {l' : List α'} (R : Nat → X → X' → Prop) (S : Y → Y' → Prop)
    (hstep : ∀ (n : Nat) a a' x x', l[n]? = some a → l'[n]? = some a' → R n x x' → ∃ s s', body n a x = some s ∧ body' n a' x' = some s' ∧ (match s, s' with | .next y, .next y' => R (n + 1) y y' | .done y, .done y' => S y y' | _, _ => False))
    (hfin : ∀ x x', R l.length x x' → S (fin x) (fin' x')) :
    ∀ (r p : List α) (r' p' : List α') (x : X) (x' : X'), l = p ++ r → l' = p' ++ r' → p.length = p'.length → r.length = r'.length → R p.length x x' → ∃ y y', forL body fin r (p.length : Int) x = some y ∧ forL body' fin' r' (p.length : Int) x' = some y' ∧ S y y'
  | [], p, [], p', x, x', hp, hp', hl, hr, h => ⟨fin x, fin' x', rfl, rfl, hfin x x' (by subst hp; simpa using h)⟩
  | a :: r, p, a' :: r', p', x, x', hp, hp', hl, hr, h => by
    obtain ⟨s, s', hs, hs', hq⟩ := hstep p.length a a' x x' (by subst hp; simp) (by subst hp'; simp [hl]) h
    simp only [forL, hs, hs']
    cases s with
    | next y =>
      cases s' with
      | next y' =>
        have := forL_rel' (fin := fin) (fin' := fin') R S hstep hfin r (p ++ [a]) r' (p' ++ [a']) y y' (by simp [hp]) (by simp [hp']) (by simp [hl]) (by simpa using hr) (by simpa using hq)
        simpa using this
      | done y' => exact hq.elim
    | done y =>
      cases s' with
      | next y' => exact hq.elim
      | done y' => exact ⟨y, y', rfl, rfl, hq⟩
theorem forL_rel {α α' X X' Y Y' : Type} {body : Int → α → X → Option (Flow X Y)} {body' : Int → α' → X' → Option (Flow X' Y')} {fin : X → Y} {fin' : X' → Y'} {l : List α} {l' : List α'} {x : X} {x' : X'} (R : Nat → X → X' → Prop) (S : Y → Y' → Prop)
    (hlen : l.length = l'.length) (h0 : R 0 x x')
    (hstep : ∀ (n : Nat) a a' x x', l[n]? = some a → l'[n]? = some a' → R n x x' → ∃ s s', body n a x = some s ∧ body' n a' x' = some s' ∧ (match s, s' with | .next y, .next y' => R (n + 1) y y' | .done y, .done y' => S y y' | _, _ => False))
    (hfin : ∀ x x', R l.length x x' → S (fin x) (fin' x')) : ∃ y y', forL body fin l 0 x = some y ∧ forL body' fin' l' 0 x' = some y' ∧ S y y' := by
  simpa using forL_rel' R S hstep hfin l [] l' [] x x' rfl rfl rfl hlen h0

theorem loopI_rel {X X' Y Y' : Type} {body : Int → X → Option (Flow X Y)} {body' : Int → X' → Option (Flow X' Y')} {fin : X → Y} {fin' : X' → Y'} {hi : Int} (R : Int → X → X' → Prop) (S : Y → Y' → Prop)
    (hstep : ∀ i x x', i < hi → R i x x' → ∃ s s', body i x = some s ∧ body' i x' = some s' ∧ (match s, s' with | .next y, .next y' => R (i + 1) y y' | .done y, .done y' => S y y' | _, _ => False))
    (hfin : ∀ i x x', hi ≤ i → R i x x' → S (fin x) (fin' x')) :
    ∀ (k : Nat) (i : Int) (x : X) (x' : X'), (hi - i).toNat = k → R i x x' → ∃ y y', loopI body fin k i x = some y ∧ loopI body' fin' k i x' = some y' ∧ S y y'
  | 0, i, x, x', hk, h => ⟨_, _, rfl, rfl, hfin i x x' (by omega) h⟩
  | k + 1, i, x, x', hk, h => by
    obtain ⟨s, s', hs, hs', hp⟩ := hstep i x x' (by omega) h
    simp only [loopI, hs, hs']
    cases s with
    | next y =>
      cases s' with
      | next y' => exact loopI_rel R S hstep hfin k (i + 1) y y' (by omega) hp
      | done y' => exact hp.elim
    | done y =>
      cases s' with
      | next y' => exact hp.elim
      | done y' => exact ⟨y, y', rfl, rfl, hp⟩
theorem forI_rel {X X' Y Y' : Type} {body : Int → X → Option (Flow X Y)} {body' : Int → X' → Option (Flow X' Y')} {fin : X → Y} {fin' : X' → Y'} {lo hi : Int} {x : X} {x' : X'} (R : Int → X → X' → Prop) (S : Y → Y' → Prop)
    (h1 : -9223372036854775808 ≤ lo) (h2 : hi ≤ 9223372036854775807) (h0 : R lo x x')
    (hstep : ∀ i x x', lo ≤ i → i < hi → R i x x' → ∃ s s', body i x = some s ∧ body' i x' = some s' ∧ (match s, s' with | .next y, .next y' => R (i + 1) y y' | .done y, .done y' => S y y' | _, _ => False))
    (hfin : ∀ i x x', lo ≤ i → (i = lo ∨ i = hi) → hi ≤ i → R i x x' → S (fin x) (fin' x')) : ∃ y y', forI lo hi body fin x = some y ∧ forI lo hi body' fin' x' = some y' ∧ S y y' := by
  unfold forI
  rw [if_pos ⟨h1, h2⟩, if_pos ⟨h1, h2⟩]
  refine loopI_rel (fun i x x' => lo ≤ i ∧ (i = lo ∨ i ≤ hi) ∧ R i x x') S ?_ ?_ _ lo x x' rfl ⟨by omega, .inl rfl, h0⟩
  · rintro i x x' hi ⟨hl, _, hv⟩
    obtain ⟨s, s', hs, hs', hp⟩ := hstep i x x' hl hi hv
    refine ⟨s, s', hs, hs', ?_⟩
    cases s with
    | next y =>
      cases s' with
      | next y' => exact ⟨by omega, .inr (by omega), hp⟩
      | done y' => exact hp
    | done y =>
      cases s' with
      | next y' => exact hp
      | done y' => exact hp
  · rintro i x x' hi ⟨hl, hh, hv⟩
    exact hfin i x x' hl (by omega) hi hv
/-- two loops with fuel, step by step -/
theorem iter_rel {X X' Y Y' : Type} {f : X → Option (Flow X Y)} {f' : X' → Option (Flow X' Y')} (R : X → X' → Prop) (m : X → Nat) (S : Y → Y' → Prop)
    (hstep : ∀ x x', R x x' → ∃ s s', f x = some s ∧ f' x' = some s' ∧ (match s, s' with | .next y, .next y' => R y y' ∧ m y < m x | .done y, .done y' => S y y' | _, _ => False)) :
    ∀ (n : Nat) (x : X) (x' : X'), m x < n → R x x' → ∃ y y', iter f n x = some y ∧ iter f' n x' = some y' ∧ S y y'
  | 0, x, x', hn, _ => by omega
  | n + 1, x, x', hn, h => by
    obtain ⟨s, s', hs, hs', hp⟩ := hstep x x' h
    simp only [iter, hs, hs']
    cases s with
    | next y =>
      cases s' with
      | next y' => exact iter_rel R m S hstep n y y' (by omega) hp.1
      | done y' => exact hp.elim
    | done y =>
      cases s' with
      | next y' => exact hp.elim
      | done y' => exact ⟨y, y', rfl, rfl, hp⟩

/-- the same loop, written twice -/
theorem iter_eq {X Y : Type} {f f' : X → Option (Flow X Y)} (Inv : X → Prop) (m : X → Nat) (Post : Y → Prop)
    (hstep : ∀ x, Inv x → ∃ s, f x = some s ∧ f' x = some s ∧ (match s with | .next y => Inv y ∧ m y < m x | .done y => Post y)) (n : Nat) (x : X) (hn : m x < n) (h : Inv x) : ∃ y, iter f n x = some y ∧ iter f' n x = some y ∧ Post y := by
  obtain ⟨y, y', h1, h2, rfl, h3⟩ := iter_rel (f := f) (f' := f') (R := fun x x' => x = x' ∧ Inv x) (m := m) (S := fun y y' => y = y' ∧ Post y) (by
    rintro x _ ⟨rfl, hx⟩
    obtain ⟨s, h1, h2, h3⟩ := hstep x hx
    refine ⟨s, s, h1, h2, ?_⟩
    cases s with
    | next y => exact ⟨⟨rfl, h3.1⟩, h3.2⟩
    | done y => exact ⟨rfl, h3⟩) n x x hn ⟨rfl, h⟩
  exact ⟨y, h1, h2, h3⟩
theorem forL_eq {α X Y : Type} {body body' : Int → α → X → Option (Flow X Y)} {fin : X → Y} {l : List α} {x : X} (Inv : Nat → X → Prop) (Post : Y → Prop) (h0 : Inv 0 x)
    (hstep : ∀ (n : Nat) a x, l[n]? = some a → Inv n x → ∃ s, body n a x = some s ∧ body' n a x = some s ∧ (match s with | .next x' => Inv (n + 1) x' | .done y => Post y)) (hfin : ∀ x, Inv l.length x → Post (fin x)) :
    ∃ y, forL body fin l 0 x = some y ∧ forL body' fin l 0 x = some y ∧ Post y := by
  obtain ⟨y, y', h1, h2, rfl, h3⟩ := forL_rel (body := body) (body' := body') (fin := fin) (fin' := fin) (l := l) (l' := l) (x := x) (x' := x) (R := fun n x x' => x = x' ∧ Inv n x) (S := fun y y' => y = y' ∧ Post y) rfl ⟨rfl, h0⟩ (by
    rintro n a a' x _ ha ha' ⟨rfl, hx⟩
    obtain rfl := Option.some.inj (ha.symm.trans ha')
    obtain ⟨s, h1, h2, h3⟩ := hstep n a x ha hx
    refine ⟨s, s, h1, h2, ?_⟩
    cases s with
    | next y => exact ⟨rfl, h3⟩
    | done y => exact ⟨rfl, h3⟩) (by rintro x _ ⟨rfl, hx⟩; exact ⟨rfl, hfin x hx⟩)
  exact ⟨y, h1, h2, h3⟩
theorem forI_eq {X Y : Type} {body body' : Int → X → Option (Flow X Y)} {fin : X → Y} {lo hi : Int} {x : X} (Inv : Int → X → Prop) (Post : Y → Prop) (h1 : -9223372036854775808 ≤ lo) (h2 : hi ≤ 9223372036854775807) (h0 : Inv lo x)
    (hstep : ∀ i x, lo ≤ i → i < hi → Inv i x → ∃ s, body i x = some s ∧ body' i x = some s ∧ (match s with | .next x' => Inv (i + 1) x' | .done y => Post y)) (hfin : ∀ i x, lo ≤ i → (i = lo ∨ i = hi) → hi ≤ i → Inv i x → Post (fin x)) :
    ∃ y, forI lo hi body fin x = some y ∧ forI lo hi body' fin x = some y ∧ Post y := by
  obtain ⟨y, y', h1, h2, rfl, h3⟩ := forI_rel (body := body) (body' := body') (fin := fin) (fin' := fin) (x := x) (x' := x) (R := fun n x x' => x = x' ∧ Inv n x) (S := fun y y' => y = y' ∧ Post y) h1 h2 ⟨rfl, h0⟩ (by
    rintro n x _ ha ha' ⟨rfl, hx⟩
    obtain ⟨s, h1, h2, h3⟩ := hstep n x ha ha' hx
    refine ⟨s, s, h1, h2, ?_⟩
    cases s with
    | next y => exact ⟨rfl, h3⟩
    | done y => exact ⟨rfl, h3⟩) (by rintro i x _ a b c ⟨rfl, hx⟩; exact ⟨rfl, hfin i x a b c hx⟩)
  exact ⟨y, h1, h2, h3⟩

/-! ### loops as folds -/
theorem loopI_fold {X Y : Type} {body : Int → X → Option (Flow X Y)} {fin : X → Y} {hi : Int} {g : Int → X → X} : ∀ (k : Nat) (i : Int) (x : X), (hi - i).toNat = k → (∀ j x, i ≤ j → j < hi → body j x = some (.next (g j x))) →
    loopI body fin k i x = some (fin ((List.range k).foldl (fun x (n : Nat) => g (i + (n : Int)) x) x))
  | 0, i, x, hk, hb => rfl
  | k + 1, i, x, hk, hb => by
    simp only [loopI, hb i x (by omega) (by omega)]
    rw [loopI_fold k (i + 1) (g i x) (by omega) (fun j x hj hj' => hb j x (by omega) hj'), List.range_succ_eq_map, List.foldl_cons, List.foldl_map]
    have e : (fun x (n : Nat) => g (i + 1 + (n : Int)) x) = (fun x (n : Nat) => g (i + (n.succ : Int)) x) := by
      funext x n
      congr 1
      omega
    simp only [e, Int.natCast_zero, Int.add_zero]
theorem forI_fold {X Y : Type} {body : Int → X → Option (Flow X Y)} {fin : X → Y} {n : Nat} {x : X} {g : Nat → X → X} (h : n ≤ 9223372036854775807) (hb : ∀ (j : Nat) x, j < n → body j x = some (.next (g j x))) :
    forI 0 n body fin x = some (fin ((List.range n).foldl (fun x k => g k x) x)) := by
  unfold forI
  rw [if_pos ⟨by omega, by omega⟩, loopI_fold (g := fun i x => g i.toNat x) _ 0 x rfl]
  · simp
  · intro j x h0 h1
    have := hb j.toNat x (by omega)
    rwa [Int.toNat_of_nonneg h0] at this
/-- a counted loop that looks for the first bad number -/
theorem loopI_any {Y : Type} {body : Int → Unit → Option (Flow Unit Y)} {fin : Unit → Y} {hi : Int} {p : Int → Bool} {y : Y} : ∀ (k : Nat) (i : Int), (hi - i).toNat = k → (∀ j, i ≤ j → j < hi → body j () = some (bif p j then .done y else .next ())) →
    loopI body fin k i () = some (bif (List.range k).any (fun n => p (i + (n : Int))) then y else fin ())
  | 0, i, hk, hb => rfl
  | k + 1, i, hk, hb => by
    simp only [loopI, hb i (by omega) (by omega)]
    rw [List.range_succ_eq_map, List.any_cons, List.any_map]
    cases hp : p i with
    | true => simp [hp]
    | false =>
      simp only [cond_false, Int.natCast_zero, Int.add_zero, hp, Bool.false_or]
      rw [loopI_any k (i + 1) (by omega) (fun j hj hj' => hb j (by omega) hj')]
      have e : ((fun n : Nat => p (i + (n : Int))) ∘ Nat.succ) = fun n : Nat => p (i + 1 + (n : Int)) := by
        funext n
        show p _ = p _
        congr 1
        omega
      rw [e]
theorem forI_any {Y : Type} {body : Int → Unit → Option (Flow Unit Y)} {fin : Unit → Y} {n : Nat} {p : Nat → Bool} {y : Y} (h : n ≤ 9223372036854775807) (hb : ∀ j : Nat, j < n → body j () = some (bif p j then .done y else .next ())) :
    forI 0 n body fin () = some (bif (List.range n).any p then y else fin ()) := by
  unfold forI
  rw [if_pos ⟨by omega, by omega⟩, loopI_any (p := fun i => p i.toNat) (y := y) _ 0 rfl]
  · simp
  · intro j h0 h1
    have := hb j.toNat (by omega)
    rwa [Int.toNat_of_nonneg h0] at this
/-- loops over a list and over its places -/
theorem forL_forI' {α X Y : Type} {body : Int → X → Option (Flow X Y)} {fin : X → Y} : ∀ (l : List α) (i : Int) (x : X), forL (fun i _ x => body i x) fin l i x = loopI body fin l.length i x
  | [], i, x => rfl
  | a :: l, i, x => by
    simp only [forL, List.length_cons, loopI]
    cases body i x with
    | none => rfl
    | some s => cases s with
      | next x' => exact forL_forI' l (i + 1) x'
      | done y => rfl
theorem forI_forL {α X Y : Type} {body : Int → X → Option (Flow X Y)} {fin : X → Y} {x : X} {l : List α} (h : l.length ≤ 9223372036854775807) : forI 0 (l.length : Int) body fin x = forL (fun i _ x => body i x) fin l 0 x := by
  unfold forI
  rw [if_pos ⟨by omega, by omega⟩, forL_forI']
  simp
/-- how many elements are so -/
theorem forL_count' {α Y : Type} {body : Int → α → Int → Option (Flow Int Y)} {fin : Int → Y} {p : α → Bool} : ∀ (l : List α) (i : Int) (c : Nat), (∀ i a x, a ∈ l → body i a x = some (.next (bif p a then w64 (x + 1) else x))) → c + l.length ≤ 9223372036854775807 →
    forL body fin l i (c : Int) = some (fin ((c + l.countP p : Nat) : Int))
  | [], i, c, hb, h => rfl
  | a :: l, i, c, hb, h => by
    simp only [List.length_cons] at h
    simp only [forL, hb i a c (by simp), List.countP_cons]
    cases hp : p a with
    | true =>
      have e : w64 ((c : Int) + 1) = ((c + 1 : Nat) : Int) := by rw [w64_id (by omega) (by omega)]; omega
      simp only [cond_true, e]
      rw [forL_count' l (i + 1) (c + 1) (fun i a x ha => hb i a x (by simp [ha])) (by omega)]
      simp [Nat.add_comm, Nat.add_left_comm]
    | false =>
      simp only [cond_false]
      rw [forL_count' l (i + 1) c (fun i a x ha => hb i a x (by simp [ha])) (by omega)]
      simp
theorem forL_count {α Y : Type} {body : Int → α → Int → Option (Flow Int Y)} {fin : Int → Y} {p : α → Bool} {l : List α} {i : Int} (h : l.length ≤ 9223372036854775807) (hb : ∀ i a x, a ∈ l → body i a x = some (.next (bif p a then w64 (x + 1) else x))) :
    forL body fin l i 0 = some (fin ((l.countP p : Nat) : Int)) := by
  have := forL_count' (fin := fin) l i 0 hb (by omega)
  simpa using this
def said {R Y : Type} (g : R → Y) : Option R → Flow Unit Y
  | some e => .done (g e)
  | none => .next ()
/-- a loop that asks each element, and ends at the first that has something to say -/
theorem forL_find {α R Y : Type} {body : Int → α → Unit → Option (Flow Unit Y)} {fin : Unit → Y} {f : α → Option R} {g : R → Y} : ∀ {l : List α}, (∀ i a, a ∈ l → body i a () = some (said g (f a))) → ∀ {i : Int},
    forL body fin l i () = some ((l.findSome? f).elim (fin ()) g)
  | [], _, i => rfl
  | a :: l, hb, i => by
    simp only [forL, hb i a (by simp), List.findSome?_cons]
    cases hf : f a with
    | some e => rfl
    | none => exact forL_find (fun i a ha => hb i a (List.mem_cons_of_mem _ ha))
/-- a loop that holds a list against another one -/
theorem forL_eqs' {α : Type} [DecidableEq α] {body : Int → α → Unit → Option (Flow Unit (Esc Bool Unit))} : ∀ (l q p : List α), (∀ (n : Nat) a c, (p ++ q)[n]? = some c → body n a () = some (if a = c then .next () else .done (.ret false))) → l.length = q.length →
    forL body (fun _ => .brk ()) l (p.length : Int) () = some (if l = q then .brk () else .ret false)
  | [], [], p, hb, hl => rfl
  | a :: l, c :: q, p, hb, hl => by
    have h1 := hb p.length a c (by simp)
    by_cases h : a = c
    · subst h
      rw [if_pos rfl] at h1
      simp only [forL, h1]
      have := forL_eqs' l q (p ++ [a]) (by simpa using hb) (by simpa using hl)
      simp only [List.length_append, List.length_singleton] at this
      simpa using this
    · rw [if_neg h] at h1
      simp only [forL, h1]
      rw [if_neg (by simp [h])]
theorem forL_eqs {α : Type} [DecidableEq α] {body : Int → α → Unit → Option (Flow Unit (Esc Bool Unit))} {l q : List α} (hb : ∀ (n : Nat) a c, q[n]? = some c → body n a () = some (if a = c then .next () else .done (.ret false))) (hl : l.length = q.length) :
    forL body (fun _ => .brk ()) l 0 () = some (if l = q then .brk () else .ret false) := by
  simpa using forL_eqs' l q [] (by simpa using hb) hl
theorem len_ne {α β : Type} {a : List α} {b : List β} : ((a.length : Int) != (b.length : Int)) = !decide (a.length = b.length) := by
  by_cases h : a.length = b.length
  · simp [h]
  · simp [h]; omega
@[simp] theorem ck_true : ck True = some () := rfl
theorem bne_dec {α : Type} [DecidableEq α] (a b : α) : (a != b) = decide (a ≠ b) := by by_cases h : a = b <;> simp [h]
theorem beq_dec {α : Type} [DecidableEq α] (a b : α) : (a == b) = decide (a = b) := by by_cases h : a = b <;> simp [h]
theorem bif_ite {α : Type} {p : Prop} [Decidable p] {a b : α} : (bif decide p then a else b) = if p then a else b := by by_cases h : p <;> simp [h]
theorem bif_bool {α : Type} {c : Bool} {a b : α} : (bif c then a else b) = if c = true then a else b := by cases c <;> rfl
end Go.Sl

/- More loops; words as lists of bits. -/
namespace Go.Sl
open Go

/-- the first that has something to say, with its place -/
def firstOf {α R : Type} (f : Nat → α → Option R) : Nat → List α → Option R
  | _, [] => none
  | n, a :: l => match f n a with
    | some e => some e
    | none => firstOf f (n + 1) l
theorem forL_findI' {α R Y : Type} {body : Int → α → Unit → Option (Flow Unit Y)} {fin : Unit → Y} {f : Nat → α → Option R} {g : R → Y} : ∀ (l : List α) (n : Nat), (∀ j a, l[j]? = some a → body ((n + j : Nat) : Int) a () = some (said g (f (n + j) a))) →
    forL body fin l (n : Int) () = some ((firstOf f n l).elim (fin ()) g)
  | [], n, hb => rfl
  | a :: l, n, hb => by
    have h0 := hb 0 a (by simp)
    simp only [Nat.add_zero] at h0
    simp only [forL, h0, firstOf]
    cases hf : f n a with
    | some e => rfl
    | none =>
      have := forL_findI' (fin := fin) (f := f) (g := g) l (n + 1) (fun j a ha => by
        have := hb (j + 1) a (by simpa using ha)
        have e : n + (j + 1) = n + 1 + j := by omega
        rwa [e] at this)
      simpa [said] using this
theorem forL_findI {α R Y : Type} {body : Int → α → Unit → Option (Flow Unit Y)} {fin : Unit → Y} {f : Nat → α → Option R} {g : R → Y} {l : List α} (hb : ∀ (n : Nat) a, l[n]? = some a → body (n : Int) a () = some (said g (f n a))) :
    forL body fin l 0 () = some ((firstOf f 0 l).elim (fin ()) g) := by
  simpa using forL_findI' (fin := fin) (f := f) (g := g) l 0 (by simpa using hb)
theorem firstOf_none' {α R : Type} {f : Nat → α → Option R} : ∀ (l : List α) (n : Nat), firstOf f n l = none → ∀ j a, l[j]? = some a → f (n + j) a = none
  | [], n, h, j, a, ha => by simp at ha
  | b :: l, n, h, j, a, ha => by
    simp only [firstOf] at h
    split at h
    · cases h
    · rename_i hb
      cases j with
      | zero => simp at ha; subst ha; simpa using hb
      | succ j =>
        have := firstOf_none' l (n + 1) h j a (by simpa using ha)
        have e : n + 1 + j = n + (j + 1) := by omega
        rwa [e] at this
theorem firstOf_none {α R : Type} {f : Nat → α → Option R} {l : List α} (h : firstOf f 0 l = none) {j : Nat} {a : α} (ha : l[j]? = some a) : f j a = none := by
  simpa using firstOf_none' l 0 h j a ha
theorem firstOf_some' {α R : Type} {f : Nat → α → Option R} {e : R} : ∀ (l : List α) (n : Nat), firstOf f n l = some e → ∃ j a, l[j]? = some a ∧ f (n + j) a = some e
  | [], n, h => by simp [firstOf] at h
  | b :: l, n, h => by
    simp only [firstOf] at h
    split at h
    · rename_i e' hb
      cases h
      exact ⟨0, b, by simp, by simpa using hb⟩
    · obtain ⟨j, a, ha, hf⟩ := firstOf_some' l (n + 1) h
      have e : n + 1 + j = n + (j + 1) := by omega
      rw [e] at hf
      exact ⟨j + 1, a, by simpa using ha, hf⟩
theorem firstOf_some {α R : Type} {f : Nat → α → Option R} {e : R} {l : List α} (h : firstOf f 0 l = some e) : ∃ j a, l[j]? = some a ∧ f j a = some e := by
  simpa using firstOf_some' l 0 h

theorem loopI_congr {X Y : Type} {body body' : Int → X → Option (Flow X Y)} {fin : X → Y} {hi : Int} : ∀ (k : Nat) (i : Int) (x : X), (hi - i).toNat = k → (∀ j x, i ≤ j → j < hi → body j x = body' j x) → loopI body fin k i x = loopI body' fin k i x
  | 0, i, x, hk, hb => rfl
  | k + 1, i, x, hk, hb => by
    simp only [loopI, hb i x (by omega) (by omega)]
    cases body' i x with
    | none => rfl
    | some s => cases s with
      | next y => exact loopI_congr k (i + 1) y (by omega) (fun j x hj hj' => hb j x (by omega) hj')
      | done y => rfl
theorem forI_congr {X Y : Type} {body body' : Int → X → Option (Flow X Y)} {fin : X → Y} {lo hi : Int} {x : X} (hb : ∀ j x, lo ≤ j → j < hi → body j x = body' j x) : forI lo hi body fin x = forI lo hi body' fin x := by
  unfold forI
  split
  · exact loopI_congr _ lo x rfl hb
  · rfl
/-- how many places are so -/
theorem forL_countI' {α Y : Type} {body : Int → α → Int → Option (Flow Int Y)} {fin : Int → Y} {p : Nat → Bool} : ∀ (l : List α) (i c : Nat), (∀ (j : Nat) a x, l[j]? = some a → body ((i + j : Nat) : Int) a x = some (.next (bif p (i + j) then w64 (x + 1) else x))) → c + l.length ≤ 9223372036854775807 →
    forL body fin l (i : Int) (c : Int) = some (fin ((c + (List.range' i l.length).countP p : Nat) : Int))
  | [], i, c, hb, h => rfl
  | a :: l, i, c, hb, h => by
    simp only [List.length_cons] at h
    have h0 := hb 0 a (c : Int) (by simp)
    simp only [Nat.add_zero] at h0
    simp only [forL, h0, List.length_cons, List.range'_succ, List.countP_cons]
    have hb' : ∀ (j : Nat) b x, l[j]? = some b → body ((i + 1 + j : Nat) : Int) b x = some (.next (bif p (i + 1 + j) then w64 (x + 1) else x)) := by
      intro j b x hj
      have := hb (j + 1) b x (by simpa using hj)
      have e : i + (j + 1) = i + 1 + j := by omega
      rwa [e] at this
    cases hp : p i with
    | true =>
      have e : w64 ((c : Int) + 1) = ((c + 1 : Nat) : Int) := by rw [w64_id (by omega) (by omega)]; omega
      simp only [cond_true, e]
      have := forL_countI' (fin := fin) l (i + 1) (c + 1) hb' (by omega)
      rw [Int.natCast_add i 1, Int.natCast_one] at this
      rw [this]
      congr 2
      simp only [if_true]
      omega
    | false =>
      simp only [cond_false]
      have := forL_countI' (fin := fin) l (i + 1) c hb' (by omega)
      rw [Int.natCast_add, Int.natCast_one] at this
      rw [this]
      simp
theorem forL_countI {α Y : Type} {body : Int → α → Int → Option (Flow Int Y)} {fin : Int → Y} {p : Nat → Bool} {l : List α} (h : l.length ≤ 9223372036854775807) (hb : ∀ (j : Nat) a x, l[j]? = some a → body (j : Int) a x = some (.next (bif p j then w64 (x + 1) else x))) :
    forL body fin l 0 0 = some (fin (((List.range l.length).countP p : Nat) : Int)) := by
  have := forL_countI' (fin := fin) (p := p) l 0 0 (by simpa using hb) (by omega)
  simpa [List.range_eq_range'] using this
theorem forI_count {Y : Type} {body : Int → Int → Option (Flow Int Y)} {fin : Int → Y} {p : Nat → Bool} {n : Nat} (h : n ≤ 9223372036854775807) (hb : ∀ (j : Nat) x, j < n → body (j : Int) x = some (.next (bif p j then w64 (x + 1) else x))) :
    forI 0 n body fin 0 = some (fin (((List.range n).countP p : Nat) : Int)) := by
  have e : forI 0 (n : Int) body fin 0 = forL (fun i _ x => body i x) fin (List.range n) 0 0 := by
    have := forI_forL (body := body) (fin := fin) (x := 0) (l := List.range n) (by simpa using h)
    simpa using this
  rw [e, forL_countI (p := p) (by simpa using h)]
  · simp
  · intro j a x hj
    have := (List.getElem?_eq_some_iff.1 hj).1
    simp only [List.length_range] at this
    exact hb j x this
/-- a loop with fuel that counts -/
theorem iter_count {X Y : Type} {f : X × Int → Option (Flow (X × Int) Y)} {g : Nat → X → X} {fin : X → Y} {n : Nat} (hs : ∀ (j : Nat) x, j < n → f (x, (j : Int)) = some (.next (g j x, ((j + 1 : Nat) : Int)))) (hf : ∀ x, f (x, (n : Int)) = some (.done (fin x))) :
    ∀ (k i fuel : Nat) (x : X), i + k = n → k < fuel → iter f fuel (x, (i : Int)) = some (fin ((List.range' i k).foldl (fun x j => g j x) x))
  | 0, i, fuel, x, hi, hk => by
    obtain ⟨m, rfl⟩ : ∃ m, fuel = m + 1 := ⟨fuel - 1, by omega⟩
    have : i = n := by omega
    subst this
    simp [iter, hf]
  | k + 1, i, fuel, x, hi, hk => by
    obtain ⟨m, rfl⟩ : ∃ m, fuel = m + 1 := ⟨fuel - 1, by omega⟩
    simp only [iter, hs i x (by omega), List.range'_succ, List.foldl_cons]
    exact iter_count hs hf k (i + 1) m (g i x) (by omega) (by omega)
theorem iter_count0 {X Y : Type} {f : X × Int → Option (Flow (X × Int) Y)} {g : Nat → X → X} {fin : X → Y} {n fuel : Nat} {x : X} (hs : ∀ (j : Nat) x, j < n → f (x, (j : Int)) = some (.next (g j x, ((j + 1 : Nat) : Int)))) (hf : ∀ x, f (x, (n : Int)) = some (.done (fin x))) (h : n < fuel) :
    iter f fuel (x, 0) = some (fin ((List.range n).foldl (fun x j => g j x) x)) := by
  have := iter_count hs hf n 0 fuel x (by omega) h
  rw [List.range_eq_range']
  simpa using this
/-- how many bits are set -/
def pc (w : Nat) : Nat := (List.range 63).countP w.testBit
theorem eqL_iff {α : Type} {f : α → α → Bool} (hf : ∀ a b, f a b = true ↔ a = b) : ∀ l m : List α, eqL f l m = true ↔ l = m
  | [], [] => by simp [eqL]
  | [], b :: m => by simp [eqL]
  | a :: l, [] => by simp [eqL]
  | a :: l, b :: m => by simp [eqL, hf, eqL_iff hf l m]
def Ty.cmp : Ty → Bool
  | .int _ => true
  | .bool => true
  | .str | .tree => false
  | .slice _ => false
  | .pair t u => t.cmp && u.cmp
  | .wrap t => t.cmp
  | .arr _ t => t.cmp
theorem deqT_iff : ∀ (t : Ty), t.cmp = true → ∀ a b : t.den, deqT t a b = true ↔ a = b
  | .int _, _, a, b => by show ((a : Int) == b) = true ↔ _; simp
  | .bool, _, a, b => by show ((a : Bool) == b) = true ↔ _; simp
  | .str, h, _, _ => by simp [Ty.cmp] at h
  | .tree, h, _, _ => by simp [Ty.cmp] at h
  | .slice _, h, _, _ => by simp [Ty.cmp] at h
  | .pair t u, h, p, q => by
    simp only [Ty.cmp, Bool.and_eq_true] at h
    show (deqT t p.1 q.1 && deqT u p.2 q.2) = true ↔ _
    rw [Bool.and_eq_true, deqT_iff t h.1, deqT_iff u h.2]
    exact ⟨fun e => Prod.ext e.1 e.2, fun e => by rw [e]; exact ⟨rfl, rfl⟩⟩
  | .wrap t, h, a, b => deqT_iff t h a b
  | .arr _ t, h, a, b => eqL_iff (deqT_iff t h) a b
theorem deqT_self (t : Ty) (h : t.cmp = true) (a : t.den) : deqT t a a = true := (deqT_iff t h a a).2 rfl
theorem deqT_ne (t : Ty) (h : t.cmp = true) {a b : t.den} (hn : a ≠ b) : deqT t a b = false := by
  cases hd : deqT t a b with
  | false => rfl
  | true => exact (hn ((deqT_iff t h a b).1 hd)).elim
theorem bif_none {α : Type} {c : Bool} {x : α} {r : Option α} (h : (bif c then some x else r) = none) : c = false ∧ r = none := by cases c <;> simp_all
theorem snoc_ind {α : Type} {P : List α → Prop} (h0 : P []) (h1 : ∀ l a, P l → P (l ++ [a])) (l : List α) : P l := by
  have : ∀ l : List α, P l.reverse := by
    intro l
    induction l with
    | nil => exact h0
    | cons a l ih => rw [List.reverse_cons]; exact h1 _ _ ih
  have := this l.reverse
  rwa [List.reverse_reverse] at this
/-- a word of bits -/
def wd : List Bool → Nat
  | [] => 0
  | b :: l => b.toNat + 2 * wd l
theorem wd_lt : ∀ l : List Bool, wd l < 2 ^ l.length
  | [] => by simp [wd]
  | b :: l => by
    have := wd_lt l
    have hb : b.toNat ≤ 1 := Bool.toNat_le b
    simp only [wd, List.length_cons, Nat.pow_succ]
    omega
theorem wd_bit : ∀ (l : List Bool) (i : Nat), (wd l).testBit i = l.getD i false
  | [], i => by simp [wd]
  | b :: l, 0 => by
    simp only [wd, Nat.testBit_zero]
    cases b <;> simp <;> omega
  | b :: l, i + 1 => by
    have h : wd (b :: l) / 2 = wd l := by
      have hb : b.toNat ≤ 1 := Bool.toNat_le b
      simp only [wd]; omega
    rw [Nat.testBit_succ, h, wd_bit l i]
    simp
/-- the bits of a word -/
def bitsOf (n w : Nat) : List Bool := (List.range n).map w.testBit
@[simp] theorem bitsOf_len (n w : Nat) : (bitsOf n w).length = n := by simp [bitsOf]
theorem bitsOf_get {n w i : Nat} (h : i < n) : (bitsOf n w)[i]? = some (w.testBit i) := by simp [bitsOf, h]
theorem bitsOf_getD {n w i : Nat} (h : i < n) : (bitsOf n w).getD i false = w.testBit i := by rw [List.getD_eq_getElem?_getD, bitsOf_get h]; rfl
theorem idx_some {α : Type} {xs : List α} {i : Int} {x : α} (h : idx xs i = some x) : 0 ≤ i ∧ i < (xs.length : Int) ∧ xs[i.toNat]? = some x := by
  unfold idx at h
  split at h
  · rename_i h0
    have := (List.getElem?_eq_some_iff.1 h).1
    exact ⟨h0, by omega, h⟩
  · cases h
theorem idx_of {α : Type} {xs : List α} {i : Int} {x : α} (h0 : 0 ≤ i) (h : xs[i.toNat]? = some x) : idx xs i = some x := by unfold idx; rw [if_pos h0]; exact h
theorem idx_last {α : Type} {xs : List α} {n : Nat} (h : n + 1 ≤ 9223372036854775807) : idx xs (w64 (((n + 1 : Nat) : Int) - 1)) = xs[n]? := by
  have : w64 (((n + 1 : Nat) : Int) - 1) = (n : Int) := by rw [w64_id (by omega) (by omega)]; omega
  rw [this, idx_nat]
end Go.Sl

/- Regions that draw their order, with stores one behind the other: the quiet operations beside them. -/
namespace Go.Sl
open Go

/-- numbers that no slot has: the places of operations that give nothing -/
def NOD : Nat := 1000000
def vop (m i : Nat) (o : Oper) : Oper := if i < m then (if o.dst.isNone then { o with dst := some (NOD + i) } else o) else o
def vops (m : Nat) (ops : Array Oper) : Array Oper := (ops.toList.zipIdx.map fun p => vop m p.2 p.1).toArray
theorem vops_get {m : Nat} {ops : Array Oper} (i : Nat) : (vops m ops)[i]? = (ops[i]?).map (vop m i) := by
  unfold vops
  simp [List.getElem?_zipIdx]
  cases ops[i]? <;> rfl
theorem vops_size {m : Nat} {ops : Array Oper} : (vops m ops).size = ops.size := by simp [vops]
theorem vop_edges {m i : Nat} {o : Oper} : edgesOf (vop m i o) = edgesOf o := by
  unfold vop
  split
  · split <;> rfl
  · rfl
theorem vop_dst {m i : Nat} {o : Oper} (h : i < m) : (vop m i o).dst = some (o.dst.getD (NOD + i)) := by
  unfold vop
  rw [if_pos h]
  cases hd : o.dst with
  | none => simp
  | some d => simp [hd]
def dstS (chOut : List (Nat × AV)) (o : Oper) (i d : Nat) : Prop := o.dst = some d ∨ (o.dst = none ∧ d = NOD + i ∧ get chOut i ≠ none)
def frS (ch : Chain) (out : List (Nat × AV)) (base : Fr) (js : List Nat) (k : Nat) : Fr :=
  (js.filterMap fun j => (out[j]?).bind fun e => if decide (NOD ≤ e.1) || ch.hits (ch.start j) k e.2 then none else some e) ++ base.filter fun e => !ch.hits 0 k e.2
theorem frS_take {ch : Chain} {out : List (Nat × AV)} {base : Fr} {js : List Nat} {k i : Nat} (h : ∀ j ∈ js, j < i) : frS ch (out.take i) base js k = frS ch out base js k := by
  unfold frS
  congr 1
  refine fm_congr (fun j hj => ?_)
  rw [List.getElem?_take_of_lt (h j hj)]

section
variable {C : Ctx} {fr : Fr} {L : LL}
/-- a store, as a step of the chain -/
def SStep (C : Ctx) (ops : Array Oper) (i : Nat) (puts : LL) (frI : Fr) (L : LL) : Prop :=
  ∀ F a w, (∀ p ∈ frI, get F p.1 = some p.2) → Rel C F L a w → ∀ (Q : Exit → Act → World → Prop) (K : Act → World → Prop),
    (∀ a' w', Rel C F (nextL [] puts L) a' w' → K a' w') → wpOp C.P ops Q i K a w
structure InvS (C : Ctx) (m : Nat) (ch : Chain) (base : Fr) (L : LL) (out : List (Nat × AV)) (listed : Array Bool) (a : Act) (w : World) (k : Nat) (F : Fr) : Prop where
  le : k ≤ ch.length
  stage : ∀ q c, ch[q]? = some c → listed.getD c.1 false = decide (q < k)
  rel : Rel C F (ch.at k L) a w
  done : ∀ j d av, j < m → listed.getD j false = true → out[j]? = some (d, av) → d < NOD → ch.hits (ch.start j) k av = false → get F d = some av
  bas : ∀ p ∈ base, ch.hits 0 k p.2 = false → get F p.1 = some p.2
theorem InvS.cover {m : Nat} {ch : Chain} {base : Fr} {out : List (Nat × AV)} {listed : Array Bool} {a : Act} {w : World} {k : Nat} {F : Fr} (hi : InvS C m ch base L out listed a w k F) {js : List Nat} {K : Nat} (hk : k ≤ K)
    (hj : ∀ j ∈ js, j < m ∧ listed.getD j false = true) : ∀ p ∈ frS ch out base js K, get F p.1 = some p.2 := by
  intro p hp
  unfold frS at hp
  rcases List.mem_append.1 hp with hp | hp
  · obtain ⟨j, hjs, hb⟩ := List.mem_filterMap.1 hp
    obtain ⟨e, he, hb⟩ := Option.bind_eq_some_iff.1 hb
    split at hb
    · cases hb
    · rename_i hh
      obtain rfl := Option.some.inj hb
      simp only [Bool.or_eq_true, decide_eq_true_eq, not_or, Bool.not_eq_true] at hh
      exact hi.done j e.1 e.2 (hj j hjs).1 (hj j hjs).2 he (by omega) (hits_mono hk hh.2)
  · obtain ⟨h1, h2⟩ := List.mem_filter.1 hp
    exact hi.bas p h1 (hits_mono hk (by simpa using h2))
theorem hits_nil {ch : Chain} (h : ∀ c ∈ ch, c.2.1 = []) (a b : Nat) (v : AV) : ch.hits a b v = false := by
  unfold Chain.hits
  rw [List.any_eq_false]
  intro c hc
  rw [h c (List.mem_of_mem_drop (List.mem_of_mem_take hc))]
  simp [AV.hitAny]

theorem out_dist {vs : Array Oper} {m : Nat} {out : List (Nat × AV)} (houtlen : out.length = m) (hmle : m ≤ vs.size) (hnodup : ((vs.toList.take m).filterMap (·.dst)).Nodup) (key : ∀ k, k < m → ∃ o, vs[k]? = some o ∧ ∃ d av, o.dst = some d ∧ out[k]? = some (d, av)) :
    ∀ (i j d : Nat) (av av' : AV), i < m → j < m → out[i]? = some (d, av) → out[j]? = some (d, av') → i = j := by
  intro i j d av av' hi hj h1 h2
  have hds : (vs.toList.take m).filterMap (·.dst) = out.map (·.1) := by
    apply List.ext_getElem?
    intro k
    have hall : ∀ o ∈ vs.toList.take m, o.dst.isSome = true := by
      intro o ho
      obtain ⟨k, hk, rfl⟩ := List.getElem_of_mem ho
      have hkm : k < m := by simp at hk; omega
      obtain ⟨o', ho', d, av, hd, _⟩ := key k hkm
      have : vs[k]? = some vs[k] := Array.getElem?_eq_getElem (by omega)
      rw [this] at ho'
      obtain rfl := Option.some.inj ho'
      simp [hd]
    have hfm : ∀ (l : List Oper), (∀ o ∈ l, o.dst.isSome = true) → l.filterMap (·.dst) = l.map fun o => o.dst.getD 0 := by
      intro l
      induction l with
      | nil => intro _; rfl
      | cons o l ih =>
        intro hl
        have := hl o (by simp)
        cases hod : o.dst with
        | none => rw [hod] at this; simp at this
        | some d => simp [hod, ih (fun x hx => hl x (by simp [hx]))]
    rw [hfm _ hall]
    by_cases hk : k < m
    · obtain ⟨o', ho', d, av, hd, hout⟩ := key k hk
      simp [List.getElem?_take_of_lt hk, ho', hd, hout]
    · rw [List.getElem?_eq_none (by simp; omega), List.getElem?_eq_none (by simp; omega)]
  rw [hds] at hnodup
  have hi' : i < (out.map (·.1)).length := by simp; omega
  have hj' : j < (out.map (·.1)).length := by simp; omega
  have e1 : (out.map (·.1))[i] = d := by
    have : (out.map (·.1))[i]? = some d := by simp [h1]
    rw [List.getElem?_eq_getElem hi'] at this
    exact Option.some.inj this
  have e2 : (out.map (·.1))[j] = d := by
    have : (out.map (·.1))[j]? = some d := by simp [h2]
    rw [List.getElem?_eq_getElem hj'] at this
    exact Option.some.inj this
  exact (List.getElem_inj hnodup).1 (e1.trans e2.symm)
theorem W_drawS0 {B : Code} {p : List Nat} {Q : Post} (m : Nat) (ch : Chain) {out : List (Nat × AV)} (hdr : isDraw (nav B p) = true)
    (hm : C.P.follows .mixedOrders = true) (hok : ((drawOkT (vops m (opsOf (nav B p))) m [] && tailOkT (opsOf (nav B p)) m && Region.noSelect (opsOf (nav B p)) && decide (C.n ≤ NOD)) && dstOk C.n (opsOf (nav B p)) && once fr && once (baseFr (opsOf (nav B p)) m fr) && chOk (opsOf (nav B p)) m ch L out) = true) (houtlen : out.length = m)
    (hns : ∀ c ∈ ch, c.2.1 = []) (hdst : ∀ i o, i < m → (opsOf (nav B p))[i]? = some o → ∃ av, out[i]? = some (o.dst.getD (NOD + i), av) ∧ (o.dst = none → ∃ c ∈ ch, c.1 = i))
    (hq : ∀ i o d av, i < m → (opsOf (nav B p))[i]? = some o → (∀ c ∈ ch, c.1 ≠ i) → o.dst = some d → out[i]? = some (d, av) → ∀ k, ch.lo (edgesOf o) ≤ k → k ≤ ch.upto (opsOf (nav B p)) i →
      Drawn C (opsOf (nav B p)) i d av (frS ch out (baseFr (opsOf (nav B p)) m fr) (edgesOf o) (ch.upto (opsOf (nav B p)) i)) (ch.at k L))
    (hc : ∀ q c o, ch[q]? = some c → (opsOf (nav B p))[c.1]? = some o → o.dst = none ∧ SStep C (opsOf (nav B p)) c.1 c.2.2 (frS ch out (baseFr (opsOf (nav B p)) m fr) (edgesOf o) q) (ch.at q L))
    (hn : WO C (opsOf (nav B p)) m Q (frS ch out (baseFr (opsOf (nav B p)) m fr) (List.range m) ch.length) (ch.at ch.length L)) : W C (nav B p) Q fr L := by
  simp only [Bool.and_eq_true] at hok
  obtain ⟨⟨⟨⟨⟨⟨⟨hok, htailok⟩, hnosel⟩, hnod⟩, hdok⟩, honce⟩, honceB⟩, hcho⟩ := hok
  have hnod := of_decide_eq_true hnod
  generalize hops : opsOf (nav B p) = ops at *
  intro a w hr
  cases hcc : nav B p <;> simp only [hcc, isDraw, Bool.false_eq_true] at hdr
  rename_i id ops' dd
  rw [hcc] at hops
  simp only [opsOf] at hops
  simp only [Bool.and_eq_true] at hdr
  obtain ⟨hdr, hpl⟩ := hdr
  subst hops hdr
  generalize hbase : baseFr ops' m fr = base at *
  obtain ⟨hmle, hnodup, _⟩ := drawOkT_parts hok
  rw [vops_size] at hmle
  have hvget : ∀ i o, ops'[i]? = some o → (vops m ops')[i]? = some (vop m i o) := fun i o ho => by rw [vops_get, ho]; rfl
  have hedge : ∀ i o, ops'[i]? = some o → ∀ j ∈ edgesOf o, j < i := fun i o ho => by
    have := (edges_ltT hok (hvget i o ho)).1
    rw [vop_edges] at this
    exact this
  unfold chOk at hcho
  simp only [Bool.and_eq_true] at hcho
  obtain ⟨⟨⟨hc1, hc2⟩, hc3⟩, hc4⟩ := hcho
  have hchm : ∀ c ∈ ch, c.1 < m := fun c hc => by simpa using List.all_eq_true.1 hc1 c hc
  have hL : (L.map (·.1)).Nodup := of_decide_eq_true hc3
  have hsure : ∀ (j d : Nat) (av : AV), out[j]? = some (d, av) → av.sure = true := fun j d av h => List.all_eq_true.1 hc4 (d, av) (List.mem_of_getElem? h)
  have hstart : ∀ (q : Nat) (c : Nat × List Nat × LL), ch[q]? = some c → ch.start c.1 = q + 1 ∧ (0 < q → ∃ b o, ch[q - 1]? = some b ∧ ops'[c.1]? = some o ∧ b.1 ∈ edgesOf o) := by
    intro q c hqc
    have hlt := (List.getElem?_eq_some_iff.1 hqc).1
    have := List.all_eq_true.1 hc2 q (by simpa using hlt)
    rw [hqc] at this
    simp only [Bool.and_eq_true, beq_iff_eq, Bool.or_eq_true] at this
    refine ⟨this.1, fun h0 => ?_⟩
    rcases this.2 with h1 | h1
    · omega
    · split at h1
      · rename_i b o hb ho
        exact ⟨b, o, hb, ho, by simpa using h1⟩
      · cases h1
  have hinj : ∀ (q q' : Nat) (c c' : Nat × List Nat × LL), ch[q]? = some c → ch[q']? = some c' → c.1 = c'.1 → q = q' := fun q q' c c' h1 h2 h3 => by
    have e1 := (hstart q c h1).1
    have e2 := (hstart q' c' h2).1
    rw [h3, e2] at e1
    omega
  have hdist : ∀ (i j d : Nat) (av av' : AV), i < m → j < m → out[i]? = some (d, av) → out[j]? = some (d, av') → i = j := out_dist houtlen (by rw [vops_size]; exact hmle) hnodup (fun k hk => by
    obtain ⟨av, h1, _⟩ := hdst k ops'[k] hk (Array.getElem?_eq_getElem (by omega))
    exact ⟨_, hvget k _ (Array.getElem?_eq_getElem (by omega)), _, av, vop_dst hk, h1⟩)
  have hbase1 : ∀ p ∈ base, p.2.sure = true ∧ ∀ (i d : Nat) (o : Oper), i < m → ops'[i]? = some o → o.dst = some d → p.1 ≠ d := by
    intro p hp
    have hg := once_get honceB hp
    rw [← hbase] at hg
    obtain ⟨g1, g2⟩ := base_spec hg
    refine ⟨g2, fun i d o hi ho hd e => g1 (List.mem_filterMap.2 ⟨o, ?_, by rw [hd, e]⟩)⟩
    rw [List.mem_iff_getElem?]
    exact ⟨i, by rw [List.getElem?_take_of_lt hi]; simpa using ho⟩
  have gd : ∀ (listed : Array Bool), listed.size = ops'.size → ∀ i b, i < ops'.size → listed.getD i b = listed.getD i false := by
    intro listed hls i b hi
    rw [Array.getD_eq_getD_getElem?, Array.getD_eq_getD_getElem?, Array.getElem?_eq_getElem (by omega)]; rfl
  have hset : ∀ (listed : Array Bool) i k, listed.size = ops'.size → i < ops'.size → (listed.setIfInBounds i true).getD k false = if i = k then true else listed.getD k false := by
    intro listed i k hls hi
    rw [Array.getD_eq_getD_getElem?, Array.getElem?_setIfInBounds]
    by_cases hik : i = k
    · subst hik; simp [hls, hi]
    · rw [if_neg hik, if_neg hik, ← Array.getD_eq_getD_getElem?]
  have toTail : ∀ (listed : Array Bool) (a : Act) (w : World), listed.size = ops'.size → (∀ i, m ≤ i → i < ops'.size → listed.getD i false = false) → (∃ k F, InvS C m ch base L out listed a w k F) → (∀ i, i < m → listed.getD i false = true) → ∀ fuel, ops'.size - m ≤ fuel → wpAny C.P .any ops' (lift C (normQ Q)) fuel listed a w := by
    intro listed a w hls htl ⟨k, F, hI⟩ hall fuel hf
    have hk : k = ch.length := by
      have := hI.le
      rcases Nat.lt_or_ge k ch.length with h1 | h1
      · have hck : ch[k]? = some ch[k] := List.getElem?_eq_getElem h1
        have := hI.stage k _ hck
        rw [hall _ (hchm _ (List.getElem_mem h1))] at this
        simp at this
      · omega
    subst hk
    refine draw_tailT hedge htailok hnosel (ops'.size - m) m listed a w (by omega) (Nat.le_refl _) hls (fun i hi => ?_) (hn a w (hI.rel.cover (hI.cover (Nat.le_refl _) (fun j hj => by have := List.mem_range.1 hj; exact ⟨this, hall j this⟩)))) fuel hf
    · by_cases him : i < m
      · rw [hall i him]; simp [him]
      · rw [htl i (by omega) hi]; simp [him]
  have quiet : ∀ (fuel : Nat) (listed : Array Bool) (a : Act) (w : World), listed.size = ops'.size → (∀ i, m ≤ i → i < ops'.size → listed.getD i false = false) →
      (∀ i o, i < m → ops'[i]? = some o → listed.getD i false = true → ∀ j ∈ edgesOf o, listed.getD j false = true) →
      (∃ k F, InvS C m ch base L out listed a w k F) → ops'.size ≤ fuel + ((List.range ops'.size).filter fun i => listed.getD i false).length → wpAny C.P .any ops' (lift C (normQ Q)) fuel listed a w := by
    intro fuel
    induction fuel with
    | zero =>
      intro listed a w hls htl hdc hI hcount
      have hall : ∀ i, i < ops'.size → listed.getD i false = true := by
        intro i hi
        have hlen : ((List.range ops'.size).filter fun i => listed.getD i false).length = (List.range ops'.size).length := by
          have := List.length_filter_le (fun i => listed.getD i false) (List.range ops'.size)
          simp at this hcount ⊢; omega
        have := List.length_filter_eq_length_iff.1 hlen i (by simpa using hi)
        simpa using this
      have hms : m = ops'.size := by
        rcases Nat.lt_or_ge m ops'.size with hlt | hge
        · have := htl m (Nat.le_refl _) hlt; rw [hall m hlt] at this; cases this
        · omega
      exact toTail listed a w hls htl hI (fun i hi => hall i (by omega)) 0 (by omega)
    | succ fuel ih =>
      intro listed a w hls htl hdc hI hcount
      by_cases hdone : ∀ i, i < m → listed.getD i false = true
      · refine toTail listed a w hls htl hI hdone (fuel + 1) ?_
        have h1 : (List.range ops'.size).filter (fun i => listed.getD i false) = (List.range ops'.size).filter (fun i => decide (i < m)) := by
          apply List.filter_congr
          intro i hi
          by_cases him : i < m
          · rw [hdone i him]; simp [him]
          · rw [htl i (by omega) (by simpa using hi)]; simp [him]
        have h2 : (List.range ops'.size).filter (fun i => decide (i < m)) = List.range m := by
          have : ops'.size = m + (ops'.size - m) := by omega
          rw [this, List.range_add, List.filter_append]
          have e1 : (List.range m).filter (fun i => decide (i < m)) = List.range m := List.filter_eq_self.2 (by simp)
          have e2 : ((List.range (ops'.size - m)).map (m + ·)).filter (fun i => decide (i < m)) = [] := List.filter_eq_nil_iff.2 (by simp)
          rw [e1, e2]; simp
        rw [h1, h2] at hcount
        simp at hcount; omega
      · obtain ⟨i0, hi0, hi0l⟩ : ∃ i, i < m ∧ listed.getD i false = false := by
          simp only [Classical.not_forall, Bool.not_eq_true] at hdone
          obtain ⟨i, hi, hil⟩ := hdone; exact ⟨i, hi, hil⟩
        have hnonempty : Region.ready .any ops' listed ≠ [] := by
          have hex : ∃ i, i < ops'.size ∧ listed.getD i false = false ∧ ∀ j, j < i → listed.getD j false = true := by
            obtain ⟨k, ⟨hk1, hk2⟩, hk3⟩ := least_of (p := fun i => i < ops'.size ∧ listed.getD i false = false) i0 ⟨by omega, hi0l⟩
            refine ⟨k, hk1, hk2, fun j hj => ?_⟩
            have := hk3 j hj
            cases hq : listed.getD j false with
            | true => rfl
            | false => exact (this ⟨by omega, hq⟩).elim
          obtain ⟨k, hk1, hk2, hk3⟩ := hex
          intro hempty
          have : k ∈ Region.ready .any ops' listed := mem_ready'.2 ⟨hk1, by rw [gd listed hls k _ hk1]; exact hk2, ops'[k], Array.getElem?_eq_getElem hk1, fun j hj => hk3 j (hedge _ _ (Array.getElem?_eq_getElem hk1) j hj)⟩
          rw [hempty] at this; cases this
        refine ⟨fun e => (hnonempty e).elim, fun i hi => ?_⟩
        obtain ⟨h1, h2, o, ho1, ho2'⟩ := mem_ready'.1 hi
        rw [gd listed hls i _ h1] at h2
        rcases Nat.lt_or_ge i m with him | him
        · obtain ⟨av, hout, hvirt⟩ := hdst i o him ho1
          obtain ⟨k, F, hI⟩ := hI
          have hjs : ∀ j ∈ edgesOf o, j < m ∧ listed.getD j false = true := fun j hj => ⟨by have := hedge _ _ ho1 j hj; omega, ho2' j hj⟩
          -- what goes on behind it
          have next : ∀ (a' : Act) (w' : World), (∃ k' F', InvS C m ch base L out (listed.setIfInBounds i true) a' w' k' F') → wpAny C.P .any ops' (lift C (normQ Q)) fuel (listed.setIfInBounds i true) a' w' := by
            intro a' w' hI'
            refine ih (listed.setIfInBounds i true) a' w' (by simp [hls]) ?_ ?_ hI' ?_
            · intro k hk hk2
              rw [hset listed i k hls h1, if_neg (by omega)]
              exact htl k hk hk2
            · intro k ok hk hok' hkl j hj
              rw [hset listed i j hls h1]
              split
              · rfl
              · rw [hset listed i k hls h1] at hkl
                by_cases hik : i = k
                · subst hik
                  rw [ho1] at hok'
                  obtain rfl := Option.some.inj hok'
                  exact ho2' j hj
                · rw [if_neg hik] at hkl
                  exact hdc k ok hk hok' hkl j hj
            · have : ((List.range ops'.size).filter fun k => (listed.setIfInBounds i true).getD k false).length = ((List.range ops'.size).filter fun k => listed.getD k false).length + 1 := by
                rw [List.filter_congr (q := fun k => decide (k = i) || listed.getD k false) (fun k hk => by
                  rw [hset listed i k hls h1]
                  by_cases hik : i = k
                  · subst hik; simp
                  · rw [if_neg hik]; simp [Ne.symm hik])]
                exact count_one ops'.size i (fun k => listed.getD k false) h1 h2
              rw [this]; omega
          by_cases hch : ∀ c ∈ ch, c.1 ≠ i
          · -- a quiet one
            obtain ⟨d, hd1⟩ : ∃ d, o.dst = some d := by
              cases hd : o.dst with
              | none =>
                obtain ⟨c, hcm, e⟩ := hvirt hd
                exact (hch c hcm e).elim
              | some d => exact ⟨d, rfl⟩
            have hdn : d < C.n := by
              have := List.all_eq_true.1 hdok o (by simpa using Array.mem_of_getElem? ho1)
              rw [hd1] at this; simpa using this
            rw [hd1, Option.getD_some] at hout
            have hkK : k ≤ ch.upto ops' i := by
              rcases upto_spec (ops := ops') hch with e | ⟨c, oc, e1, e2, e3⟩
              · rw [e]; exact hI.le
              · rcases Nat.lt_or_ge (ch.upto ops' i) k with hlt | hge
                · have := hI.stage _ c e1
                  rw [decide_eq_true hlt] at this
                  have := hdc c.1 oc (hchm c (List.mem_of_getElem? e1)) e2 this i e3
                  rw [h2] at this; cases this
                · exact hge
            obtain ⟨h, ρ, hrel⟩ := hI.rel
            have hcov := hI.cover hkK hjs
            have hlo : ch.lo (edgesOf o) ≤ k := loA_le (Nat.zero_le _) (fun q c hqc hce => by
              have := hI.stage q c hqc
              rw [ho2' c.1 hce] at this
              have := of_decide_eq_true this.symm
              omega)
            have hrelI : RelH C h ρ (frS ch out base (edgesOf o) (ch.upto ops' i)) (ch.at k L) a w :=
              { hrel with fr := fun t v ht => hrel.fr t v (hcov (t, v) (get_mem _ _ _ ht)) }
            refine hq i o d av him ho1 hch hd1 hout k hlo hkK h ρ a w hrelI _ _ (fun h' v w' hext hlift hv => next _ _ ⟨k, putF F d av, hI.le, ?_, ?_, ?_, ?_⟩)
            · intro q c hqc
              rw [hset listed i c.1 hls h1, if_neg (Ne.symm (hch c (List.mem_of_getElem? hqc)))]
              exact hI.stage q c hqc
            · exact ⟨h', ρ, (hlift F _ (fun s o hs => hs) hrel).putSlot d av v hdn hv⟩
            · intro j dj avj hj hjl hjo hjd hjh
              by_cases hij : i = j
              · subst hij
                rw [hout] at hjo
                simp only [Option.some.injEq, Prod.mk.injEq] at hjo
                obtain ⟨rfl, rfl⟩ := hjo
                exact get_putF_self
              · rw [hset listed i j hls h1, if_neg hij] at hjl
                exact get_putF (hI.done j dj avj hj hjl hjo hjd hjh) (hsure j dj avj hjo) (fun e => hij (hdist i j d av avj him hj hout (e ▸ hjo)))
            · intro p hp hph
              obtain ⟨b1, b2⟩ := hbase1 p hp
              exact get_putF (hI.bas p hp hph) b1 (b2 i d o him ho1 hd1)
          · -- a step of the chain
            simp only [Classical.not_forall, Classical.not_not] at hch
            obtain ⟨c, hcm, hci⟩ := hch
            obtain ⟨q, hqlt, hqe⟩ := List.getElem_of_mem hcm
            have hqc : ch[q]? = some c := by rw [List.getElem?_eq_getElem hqlt, hqe]
            subst hci
            have hqk : q = k := by
              have hst := hI.stage q c hqc
              rw [h2] at hst
              have hge := of_decide_eq_false hst.symm
              rcases Nat.eq_or_lt_of_le (Nat.le_of_not_lt hge) with e | hlt
              · exact e.symm
              · obtain ⟨b, ob, hb, hob, hbe⟩ := (hstart q c hqc).2 (by omega)
                rw [ho1] at hob
                obtain rfl := Option.some.inj hob
                have := ho2' b.1 hbe
                rw [hI.stage (q - 1) b hb] at this
                have := of_decide_eq_true this
                omega
            subst hqk
            have hcov := hI.cover (Nat.le_refl _) hjs
            obtain ⟨hdnone, hst⟩ := hc q c o hqc ho1
            refine hst F a w hcov hI.rel _ _ (fun a' w' hrel' => next _ _ ⟨q + 1, F, by omega, ?_, ?_, ?_, ?_⟩)
            · intro q' c' hqc'
              rw [hset listed c.1 c'.1 hls h1]
              by_cases e : c.1 = c'.1
              · have := hinj q q' c c' hqc hqc' e
                subst this
                rw [if_pos e]; simp
              · rw [if_neg e, hI.stage q' c' hqc']
                have hne : q' ≠ q := by rintro rfl; rw [hqc] at hqc'; exact e (by rw [Option.some.inj hqc'])
                congr 1
                exact propext ⟨fun h => by omega, fun h => by omega⟩
            · rw [chain_at_succ hqc, hns c hcm]; exact hrel'
            · intro j dj avj hj hjl hjo hjd hjh
              by_cases hij : c.1 = j
              · subst hij
                have e : NOD + c.1 = dj := by
                  rw [hout, hdnone] at hjo
                  exact congrArg Prod.fst (Option.some.inj hjo)
                exact absurd hjd (by rw [← e]; exact Nat.not_lt.2 (Nat.le_add_right _ _))
              · rw [hset listed c.1 j hls h1, if_neg hij] at hjl
                exact hI.done j dj avj hj hjl hjo hjd (hits_nil hns _ _ _)
            · exact fun p hp hph => hI.bas p hp (hits_nil hns _ _ _)
        · exfalso
          have h3m : m = i := by
            rcases Nat.lt_or_ge m i with h4 | h4
            · obtain ⟨j, hj, hjm⟩ := (edges_ltT hok (hvget i o ho1)).2.2.2.2 h4
              rw [vop_edges] at hj
              have hjs := hedge _ _ ho1 j hj
              have := ho2' j hj
              rw [htl j hjm (by omega)] at this; cases this
            · omega
          have all : ∀ d j, m - j ≤ d → j < m → listed.getD j false = true := by
            intro d
            induction d with
            | zero => intro j h4 h5; omega
            | succ d ihd =>
              intro j h4 h5
              rcases (edges_ltT hok (hvget i o ho1)).2.2.2.1 h3m j (by omega) with h7 | h7 | ⟨k, ok, k1, k2, k3, k4⟩
              · rw [vop_edges] at h7; exact ho2' j h7
              · cases h7
              · rw [vops_get] at k3
                obtain ⟨ok', ho', rfl⟩ := Option.map_eq_some_iff.1 k3
                rw [vop_edges] at k4
                have := hedge _ _ ho' j k4
                exact hdc k ok' k1 ho' (ihd k (by omega) k1) j k4
          have := all m i0 (by omega) hi0
          rw [hi0l] at this; cases this
  refine region_any hpl hm (quiet ops'.size _ a _ (by simp) (fun i _ hi => by simp [Array.getD_eq_getD_getElem?, hi]) (fun i o hi ho hl => ?_) ?_ (by omega))
  · rw [Array.getD_eq_getD_getElem?] at hl
    simp [show i < ops'.size by omega] at hl
  · obtain ⟨h, ρ, hr'⟩ := hr.drawn
    refine ⟨0, base, Nat.zero_le _, fun q c hqc => ?_, ⟨h, ρ, ?_⟩, fun j d av hj hl => ?_, fun p hp _ => once_get honceB hp⟩
    · have := hchm c (List.mem_of_getElem? hqc)
      rw [Array.getD_eq_getD_getElem?]
      simp [show c.1 < ops'.size by omega]
    · rw [← hbase]
      exact { hr' with fr := base_get (fun p hp => hr'.fr p.1 p.2 (once_get honce hp)) }
    · rw [Array.getD_eq_getD_getElem?] at hl
      simp [show j < ops'.size by omega] at hl
def entsS (P : Program) (ops : Array Oper) (base : Fr) (L : LL) (ch : Chain) (chOut : List (Nat × AV)) (orcs : List (Nat × Orc)) (cs : List (Nat × List (Option Ty) × AV)) : Nat → List Oper → List (Nat × AV) → Option (List (Nat × AV) × List Prop × List (Nat × List AV × AV))
  | _, [], acc => some (acc, [], [])
  | i, o :: r, acc =>
    match o.dst with
    | some d =>
      match get chOut i with
      | some av => entsS P ops base L ch chOut orcs cs (i + 1) r (acc ++ [(d, av)])
      | none =>
        match get cs i with
        | some (us, R) =>
          match cDraw ops (frS ch acc base (edgesOf o) (ch.upto ops i)) us o with
          | some (f, as, q) =>
            match entsS P ops base L ch chOut orcs cs (i + 1) r (acc ++ [(d, R)]) with
            | some (l, obs, calls) => some (l, q :: obs, (f, as, R) :: calls)
            | none => none
          | none => none
        | none =>
          match xDraw P ops (frS ch acc base (edgesOf o) (ch.upto ops i)) (LLq ch (ch.upto ops i) L) (get orcs (2 * i)) (get orcs (2 * i + 1)) d o with
          | some (av, p) =>
            match entsS P ops base L ch chOut orcs cs (i + 1) r (acc ++ [(d, av)]) with
            | some (l, obs, calls) => some (l, p ++ obs, calls)
            | none => none
          | none =>
            match xStages P ops (frS ch acc base (edgesOf o) (ch.upto ops i)) (get orcs (2 * i)) (get orcs (2 * i + 1)) d o (stagesOf ch (ch.lo (edgesOf o)) (ch.upto ops i) L) with
            | some (av, p) =>
              match entsS P ops base L ch chOut orcs cs (i + 1) r (acc ++ [(d, av)]) with
              | some (l, obs, calls) => some (l, p ++ obs, calls)
              | none => none
            | none => none
    | none =>
      match get chOut i with
      | some av => entsS P ops base L ch chOut orcs cs (i + 1) r (acc ++ [(NOD + i, av)])
      | none => none

theorem entsS_spec {ops : Array Oper} {base : Fr} {ch : Chain} {chOut : List (Nat × AV)} {orcs : List (Nat × Orc)} {cs : List (Nat × List (Option Ty) × AV)} (hL : (L.map (·.1)).Nodup) : ∀ (l : List Oper) (i : Nat) (acc out : List (Nat × AV)) (obs : List Prop) (calls : List (Nat × List AV × AV)), acc.length = i →
    entsS C.P ops base L ch chOut orcs cs i l acc = some (out, obs, calls) → AllP obs → AllD C.P (LLq ch ch.length L) calls → (∀ k o, l[k]? = some o → ops[i + k]? = some o) → (∀ (k : Nat) (o : Oper) (d : Nat), ops[k]? = some o → o.dst = some d → d < C.n) →
    out.length = i + l.length ∧ (∀ k, k < i → out[k]? = acc[k]?) ∧ ∀ k o, l[k]? = some o → ∃ d av, dstS chOut o (i + k) d ∧ out[i + k]? = some (d, av) ∧ (get chOut (i + k) = none → ∀ s, ch.lo (edgesOf o) ≤ s → s ≤ ch.upto ops (i + k) → Drawn C ops (i + k) d av (frS ch (out.take (i + k)) base (edgesOf o) (ch.upto ops (i + k))) (ch.at s L))
  | [], i, acc, out, obs, calls, hl, h, _, _, _, _ => by
    simp only [entsS, Option.some.injEq, Prod.mk.injEq] at h
    obtain ⟨rfl, _⟩ := h
    exact ⟨by simp [hl], fun _ _ => rfl, fun k o hk => by simp at hk⟩
  | o :: l, i, acc, out, obs, calls, hl, h, ho, hcl, hops, hdn => by
    have fin : ∀ (d : Nat) (av : AV) (l' : List (Nat × AV)) (q : List Prop) (cl : List (Nat × List AV × AV)), dstS chOut o i d → entsS C.P ops base L ch chOut orcs cs (i + 1) l (acc ++ [(d, av)]) = some (l', q, cl) → AllP q → AllD C.P (LLq ch ch.length L) cl →
        (get chOut i = none → ∀ s, ch.lo (edgesOf o) ≤ s → s ≤ ch.upto ops i → Drawn C ops i d av (frS ch acc base (edgesOf o) (ch.upto ops i)) (ch.at s L)) → 
        l'.length = i + (o :: l).length ∧ (∀ k, k < i → l'[k]? = acc[k]?) ∧ ∀ k o', (o :: l)[k]? = some o' → ∃ d av, dstS chOut o' (i + k) d ∧ l'[i + k]? = some (d, av) ∧ (get chOut (i + k) = none → ∀ s, ch.lo (edgesOf o') ≤ s → s ≤ ch.upto ops (i + k) → Drawn C ops (i + k) d av (frS ch (l'.take (i + k)) base (edgesOf o') (ch.upto ops (i + k))) (ch.at s L)) := by
      intro d av l' q cl hd he hq hcl' hdr
      obtain ⟨h1, h2, h3⟩ := entsS_spec hL l (i + 1) (acc ++ [(d, av)]) l' q cl (by simp [hl]) he hq hcl' (fun k o' hk => by
        have := hops (k + 1) o' (by simpa using hk)
        rwa [show i + (k + 1) = i + 1 + k by omega] at this) hdn
      have hacc : l'.take i = acc := by
        apply List.ext_getElem?
        intro k
        rw [List.getElem?_take]
        split
        · rename_i hk
          rw [h2 k (by omega), List.getElem?_append_left (by omega)]
        · rw [List.getElem?_eq_none (by omega)]
      refine ⟨by rw [h1]; simp; omega, fun k hk => ?_, fun k o' hk => ?_⟩
      · rw [h2 k (by omega), List.getElem?_append_left (by omega)]
      · cases k with
        | zero =>
          simp only [List.getElem?_cons_zero, Option.some.injEq] at hk
          subst hk
          refine ⟨d, av, hd, ?_, ?_⟩
          · rw [Nat.add_zero, h2 i (by omega), List.getElem?_append_right (by omega)]; simp [hl]
          · rw [Nat.add_zero, hacc]; exact hdr
        | succ k =>
          obtain ⟨d', av', a1, a2, a3⟩ := h3 k o' (by simpa using hk)
          have e : i + 1 + k = i + (k + 1) := by omega
          rw [e] at a1 a2 a3
          exact ⟨d', av', a1, a2, a3⟩
    have hoi : ops[i]? = some o := by simpa using hops 0 o rfl
    simp only [entsS] at h
    split at h
    · rename_i d hd
      split at h
      · rename_i av hco
        exact fin d av _ _ _ (.inl hd) h ho hcl (fun e => by rw [hco] at e; cases e)
      · split at h
        · rename_i us R hcs
          split at h
          · rename_i f as q hcd
            split at h
            · rename_i l' obs' calls' he
              simp only [Option.some.injEq, Prod.mk.injEq] at h
              obtain ⟨rfl, rfl, rfl⟩ := h
              obtain ⟨hq1, hq2⟩ := AllP.cons' ho
              obtain ⟨⟨hfn, hR, σ, as0, Lin, e0, hF, hLk, hk⟩, hcl2⟩ := hcl
              subst e0
              exact fin d R _ _ _ (.inl hd) he hq2 hcl2 (fun _ s _ hs => (cDrawL_drawn σ hoi hd hcd hq1 hfn hF hLk (by rw [hk, hR]; rfl)).more (LLq_cover (Nat.le_trans hs (upto_le ch ops i)) hL))
            · simp at h
          · simp at h
        · split at h
          · rename_i av p hk
            split at h
            · rename_i l' obs' calls' he
              simp only [Option.some.injEq, Prod.mk.injEq] at h
              obtain ⟨rfl, rfl, rfl⟩ := h
              obtain ⟨hq1, hq2⟩ := ho.append
              exact fin d av _ _ _ (.inl hd) he hq2 hcl (fun _ s _ hs => (xDraw_drawn hoi hd (hdn i o d hoi hd) hk hq1).more (LLq_cover hs hL))
            · simp at h
          · split at h
            · rename_i av p hk
              split at h
              · rename_i l' obs' calls' he
                simp only [Option.some.injEq, Prod.mk.injEq] at h
                obtain ⟨rfl, rfl, rfl⟩ := h
                obtain ⟨hq1, hq2⟩ := ho.append
                exact fin d av _ _ _ (.inl hd) he hq2 hcl (fun _ s hs1 hs2 => xStages_drawn hoi hd (hdn i o d hoi hd) hk hq1 _ (mem_stages hs1 hs2))
              · simp at h
            · simp at h
    · rename_i hd
      split at h
      · rename_i av hco
        exact fin (NOD + i) av _ _ _ (.inr ⟨hd, rfl, by rw [hco]; simp⟩) h ho hcl (fun e => by rw [hco] at e; cases e)
      · simp at h

/-- a store -/
def sDo (P : Program) (fr : Fr) (L : LL) (orc : Option Orc) (o : Oper) : Option (Nat × LObj × Prop) :=
  match o.op, o.dst, o.guard with
  | .store t x v, none, none =>
    match evS fr none x, evS fr none v with
    | some y, some z => eStore P L (Orc.sv orc) t (some y) (some z)
    | _, _ => none
  | _, _, _ => none
theorem nextL_put {s : Nat} {o : LObj} {L : LL} {t : Nat} {x : LObj} (h : get (nextL [] [(s, o)] L) t = some x) : get (put L s o) t = some x := by
  rw [get_nextL'] at h
  rw [get_put]
  simp only [get] at h
  by_cases e : s = t
  · rw [if_pos e] at h ⊢; exact h
  · rw [if_neg e] at h ⊢
    simp at h
    exact h
theorem sDo_step {ops : Array Oper} {i s : Nat} {orc : Option Orc} {o : Oper} {o' : LObj} {p : Prop} {frI : Fr} (ho : ops[i]? = some o) (h : sDo C.P frI L orc o = some (s, o', p)) (hp : p) : o.dst = none ∧ SStep C ops i [(s, o')] frI L := by
  unfold sDo at h
  split at h
  · rename_i t x v hop hdst hgd
    refine ⟨hdst, fun F a w hF hrel Q K hK => ?_⟩
    split at h
    · rename_i y z hy hz
      have e1 := evS_cover hF hy
      have e2 := evS_cover hF hz
      have hx : exec C.P F L none orc o = some (F, put L s o', [p]) := by
        unfold exec
        simp only [hop, hdst, e1, e2, h, Option.map_some]
      obtain ⟨hh, ρ, hr⟩ := hrel
      have hw : Region.wanted o (yielded ops a.tmps) = true := by simp [Region.wanted, hgd]
      have hd := does_of_exec (ops := ops) hw (exec_sound hr (fun g b e => by cases e) (fun d e => by rw [hdst] at e; cases e) hx hp)
      have := hd Q K (fun a' w' hr' => hK a' w' (hr'.less (fun t x ht => nextL_put ht)))
      unfold wpOp
      rw [ho]
      simp only [hw, if_true] at this ⊢
      exact .inl this
    · cases h
  · cases h
def AllSt (C : Ctx) (ops : Array Oper) (ch : Chain) (out : List (Nat × AV)) (base : Fr) (L : LL) : Nat → Chain → Prop
  | _, [] => True
  | q, c :: r => (c.2.1 = [] ∧ ∃ o, ops[c.1]? = some o ∧ o.dst = none ∧ SStep C ops c.1 c.2.2 (frS ch out base (edgesOf o) q) (ch.at q L)) ∧ AllSt C ops ch out base L (q + 1) r
theorem allSt_at {ops : Array Oper} {ch : Chain} {out : List (Nat × AV)} {base : Fr} : ∀ (r : Chain) (q : Nat), AllSt C ops ch out base L q r → ∀ k c, r[k]? = some c → c.2.1 = [] ∧ ∃ o, ops[c.1]? = some o ∧ o.dst = none ∧ SStep C ops c.1 c.2.2 (frS ch out base (edgesOf o) (q + k)) (ch.at (q + k) L)
  | [], q, _, k, c, h => by simp at h
  | c0 :: r, q, h, 0, c, hc => by
    simp only [List.getElem?_cons_zero, Option.some.injEq] at hc
    subst hc
    exact h.1
  | c0 :: r, q, h, k + 1, c, hc => by
    have := allSt_at r (q + 1) h.2 k c (by simpa using hc)
    rwa [show q + 1 + k = q + (k + 1) by omega] at this
def stAt (P : Program) (ops : Array Oper) (ch : Chain) (out : List (Nat × AV)) (base : Fr) (L : LL) (orc : Option Orc) (q i : Nat) : Option (Nat × LObj × Prop) :=
  match ops[i]? with
  | some o => sDo P (frS ch out base (edgesOf o) q) (ch.at q L) orc o
  | none => none
theorem stNil {ops : Array Oper} {ch : Chain} {out : List (Nat × AV)} {base : Fr} {q : Nat} : AllSt C ops ch out base L q [] := trivial
theorem stDo {ops : Array Oper} {ch r : Chain} {out : List (Nat × AV)} {base : Fr} {q i s : Nat} {o' : LObj} {p : Prop} (orc : Option Orc) (h : stAt C.P ops ch out base L orc q i = some (s, o', p)) (hp : p) (t : AllSt C ops ch out base L (q + 1) r) : AllSt C ops ch out base L q ((i, [], [(s, o')]) :: r) := by
  unfold stAt at h
  split at h
  · rename_i o ho
    obtain ⟨h1, h2⟩ := sDo_step ho h hp
    exact ⟨⟨rfl, o, ho, h1, h2⟩, t⟩
  · cases h
theorem W_drawS5 {B : Code} {p : List Nat} {Q : Post} {fr' : Fr} {L' : LL} (m : Nat) (ch : Chain) (chOut : List (Nat × AV)) (orcs : List (Nat × Orc)) (cs : List (Nat × List (Option Ty) × AV)) (kF kL : List Nat) {out : List (Nat × AV)} {obs : List Prop} {calls : List (Nat × List AV × AV)} (hdr : isDraw (nav B p) = true)
    (hm : C.P.follows .mixedOrders = true) (hok : ((drawOkT (vops m (opsOf (nav B p))) m [] && tailOkT (opsOf (nav B p)) m && Region.noSelect (opsOf (nav B p)) && decide (C.n ≤ NOD)) && dstOk C.n (opsOf (nav B p)) && once fr && once (baseFr (opsOf (nav B p)) m fr) && chOk (opsOf (nav B p)) m ch L out) = true) (hco : (chOut.all fun e => ch.any fun c => c.1 == e.1) = true)
    (he : entsS C.P (opsOf (nav B p)) (baseFr (opsOf (nav B p)) m fr) L ch chOut orcs cs 0 ((opsOf (nav B p)).toList.take m) [] = some (out, obs, calls)) (ho : AllP obs) (hc : AllD C.P (LLq ch ch.length L) calls)
    (hch : AllSt C (opsOf (nav B p)) ch out (baseFr (opsOf (nav B p)) m fr) L 0 ch)
    (hk : restr kF kL (frS ch out (baseFr (opsOf (nav B p)) m fr) (List.range m) ch.length) (ch.at ch.length L) = some (fr', L')) (hn : WO C (opsOf (nav B p)) m (normQ Q) fr' L') : W C (nav B p) Q fr L := by
  have hok' := hok
  simp only [Bool.and_eq_true] at hok'
  obtain ⟨⟨⟨⟨⟨⟨⟨hk1, _⟩, _⟩, _⟩, hk2⟩, _⟩, _⟩, hk5⟩ := hok'
  have hL : (L.map (·.1)).Nodup := by
    unfold chOk at hk5
    simp only [Bool.and_eq_true] at hk5
    exact of_decide_eq_true hk5.1.2
  have hmle : m ≤ (opsOf (nav B p)).size := by have := (drawOkT_parts hk1).1; rwa [vops_size] at this
  obtain ⟨h1, _, h3⟩ := entsS_spec hL _ 0 [] out obs calls rfl he ho hc (fun k o hk => by
    rw [Nat.zero_add]
    have : k < m := by
      have := (List.getElem?_eq_some_iff.1 hk).1
      simp at this; omega
    rw [List.getElem?_take_of_lt this] at hk
    simpa using hk) (fun k o d hk hd => dstOk_spec hk2 hk hd)
  have h3' : ∀ i o, i < m → (opsOf (nav B p))[i]? = some o → ∃ d av, dstS chOut o i d ∧ out[i]? = some (d, av) ∧ (get chOut i = none → ∀ s, ch.lo (edgesOf o) ≤ s → s ≤ ch.upto (opsOf (nav B p)) i → Drawn C (opsOf (nav B p)) i d av (frS ch (out.take i) (baseFr (opsOf (nav B p)) m fr) (edgesOf o) (ch.upto (opsOf (nav B p)) i)) (ch.at s L)) := by
    intro i o hi hoi
    have := h3 i o (by rw [List.getElem?_take_of_lt hi]; simpa using hoi)
    simpa using this
  have hns : ∀ c ∈ ch, c.2.1 = [] := by
    intro c hcm
    obtain ⟨q, hq, e⟩ := List.getElem_of_mem hcm
    exact (allSt_at ch 0 hch q c (by rw [List.getElem?_eq_getElem hq, e])).1
  refine W_mono (fun _ _ _ h => h.2) (W_drawS0 (Q := normQ Q) m ch hdr hm hok (by rw [h1]; simp; omega) hns (fun i o hi hoi => ?_) (fun i o d av hi hoi hq hd hout s hs1 hs2 => ?_) (fun q c o hqc hoc => ?_) (WO_weaken kF kL hk hn))
  · obtain ⟨d, av, a1, a2, _⟩ := h3' i o hi hoi
    rcases a1 with a1 | ⟨b1, b2, b3⟩
    · exact ⟨av, by rw [a1]; exact a2, fun e => by rw [a1] at e; cases e⟩
    · refine ⟨av, by rw [b1, a2, b2]; rfl, fun _ => ?_⟩
      cases hg : get chOut i with
      | none => exact (b3 hg).elim
      | some v =>
        have := List.all_eq_true.1 hco _ (get_mem _ _ _ hg)
        obtain ⟨c, hcm, he⟩ := List.any_eq_true.1 this
        exact ⟨c, hcm, by simpa using he⟩
  · obtain ⟨d', av', a1, a2, a3⟩ := h3' i o hi hoi
    rw [hout] at a2
    simp only [Option.some.injEq, Prod.mk.injEq] at a2
    obtain ⟨rfl, rfl⟩ := a2
    have hnone : get chOut i = none := by
      cases hg : get chOut i with
      | none => rfl
      | some v =>
        have := List.all_eq_true.1 hco _ (get_mem _ _ _ hg)
        obtain ⟨c, hcm, he⟩ := List.any_eq_true.1 this
        exact (hq c hcm (by simpa using he)).elim
    have := a3 hnone s hs1 hs2
    rwa [frS_take (fun j hj => by have := (edges_ltT hk1 (i := i) (o := vop m i o) (by rw [vops_get, hoi]; rfl)).1 j (by rw [vop_edges]; exact hj); exact this)] at this
  · obtain ⟨_, o', b1, b2, b4⟩ := allSt_at ch 0 hch q c hqc
    rw [hoc] at b1
    obtain rfl := Option.some.inj b1
    exact ⟨b2, by simpa using b4⟩
end
end Go.Sl

/- A queue: a slice of one's own that is cut at its head and appended to at its end; where it begins in its block is not said. -/
namespace Go.Sl
open Go
section
variable {C : Ctx} {fr : Fr} {L : LL} {Q : Post} {h : Heap} {ρ : Nat → Value} {a : Act} {w : World}

theorem que_hdr {own : Nat → Prop} {r : Value} {t : Ty} {xs : List t.den} (e : ORel own h ρ w r (.que t xs)) :
    hdrOf r = r ∧ ∃ ad cap, r = .slice ad (List.length xs) cap ∧ List.length xs ≤ cap := by
  rcases e with ⟨rfl, rfl⟩ | ⟨b, off, cap, cur, el, rfl, _, _, _, _, h5, _⟩
  · exact ⟨rfl, none, 0, rfl, Nat.le_refl _⟩
  · exact ⟨rfl, _, cap, rfl, h5⟩
/-- a slice of one's own is a queue -/
theorem RelH.toq (hr : RelH C h ρ fr L a w) {s : Nat} {t : Ty} {xs : List t.den} (hg : get L s = some (.seq t xs)) : RelH C h ρ fr (put L s (.que t xs)) a w := by
  have key : ∀ s' o, get (put L s (.que t xs)) s' = some o → (s' = s ∧ o = .que t xs) ∨ (s' ≠ s ∧ get L s' = some o) := by
    intro s' o ho
    rw [get_put] at ho
    by_cases e : s = s'
    · rw [if_pos e] at ho
      exact .inl ⟨e.symm, (Option.some.inj ho).symm⟩
    · rw [if_neg e] at ho
      exact .inr ⟨fun e' => e e'.symm, ho⟩
  have any : ∀ s' o, get (put L s (.que t xs)) s' = some o → ∃ o', get L s' = some o' := fun s' o ho => by
    rcases key s' o ho with ⟨rfl, _⟩ | ⟨_, h1⟩
    · exact ⟨_, hg⟩
    · exact ⟨_, h1⟩
  exact { hr with
    objs := fun s' o ho => by
      rcases key s' o ho with ⟨rfl, rfl⟩ | ⟨_, h1⟩
      · rcases hr.objs _ _ hg with h0 | ⟨b, cap, cur, el, h1, h2, h3, h4, h5, h6, h7, h8⟩
        · exact .inl h0
        · exact .inr ⟨b, 0, cap, cur, el, h1, h2, h3, h4, by omega, h6, h7, fun i x hx => by rw [Nat.zero_add]; exact h8 i x hx⟩
      · exact hr.objs _ _ h1
    apart := fun s1 s2 o1 o2 b hne e1 e2 => by
      obtain ⟨p1, q1⟩ := any _ _ e1
      obtain ⟨p2, q2⟩ := any _ _ e2
      exact hr.apart s1 s2 p1 p2 b hne q1 q2
    low := fun s1 o1 b e1 => by
      obtain ⟨p1, q1⟩ := any _ _ e1
      exact hr.low s1 p1 b q1 }
def toqT (L : LL) (s : Nat) : LL := match get L s with | some (.seq t xs) => put L s (.que t xs) | _ => L
theorem WO_toq {ops : Array Oper} {i : Nat} (s : Nat) (h : (match get L s with | some (.seq _ _) => true | _ => false) = true) (hw : WO C ops i Q fr (toqT L s)) : WO C ops i Q fr L := by
  unfold toqT at hw
  split at h
  · rename_i t xs hg
    rw [hg] at hw
    exact fun a w ⟨h', ρ, hr⟩ => hw a w ⟨h', ρ, hr.toq hg⟩
  · cases h

theorem run_append_in_off {P : Program} {t t2 ty e e2 : TypeId} {i : TypeInfo} (ht : P.underlying t = some (.slice e)) (ht2 : P.underlying t2 = some (.slice e2)) (hi : P.info? e = some i)
    {b off n cap m : Nat} {x : Value} {news : List Value} {cur : Array Value} {el : TypeId} (hx : (Builtin.lenOf x).run P w = .ok m w) (hb : w.heap[b]? = some (.cells cur el (0, 0)))
    (hnew : (Builtin.firstCells i.size m x).run P w = .ok news.toArray w) (hroom : n + m ≤ cap) (hfit : off + n * i.size + news.length ≤ cur.size) (h1 : ∀ v ∈ news, v.oneCell' = true) :
    (Builtin.append_ #[t, t2] ty #[.slice (some ⟨b, off, none⟩) n cap, x]).run P w = .ok (.slice (some ⟨b, off, none⟩) (n + m) cap) (w.setRow b (over cur.toList (off + n * i.size) news).toArray) := by
  have hst := run_storeCells_at P b (off + n * i.size) el news 0 cur w hb (by simpa using hfit) h1
  simp only [Nat.add_zero] at hst
  simp [Builtin.append_, run_underlying' ht, run_underlying' ht2, sizeOf, typeInfo, hi, hx, hroom, hnew, addr_add, hst, over]

theorem que_append (hr : RelH C h ρ fr L a w) {P : Program} {tm : Array Value} {t t2 ty el el2 : TypeId} {x : Option AV} {vx : Value} {u : Ty} {xs ys : List u.den} {s0 : Nat}
    (hu : P.underlying t = some (.slice el)) (hu2 : P.underlying t2 = some (.slice el2)) (hg : get L s0 = some (.que u xs)) (hxv : Good h ρ tm x vx) (hsrc : srcOf L x = some ⟨u, ys⟩) (hok : elemOk P el u = true) (hsm : List.length xs + List.length ys ≤ 4294967296) (hnm : nameOk s0 = true) :
    ∃ r w', (Builtin.append_ #[t, t2] ty #[ρ s0, vx]).run P w = .ok r w' ∧ r.oneCell' = true ∧ hdrOf r = r ∧ RelH C h (upd ρ s0 r) (killF s0 fr) (newL s0 (.que u (xs ++ ys)) L) a w' := by
  obtain ⟨inf, z, hi, hisz, hpos, hby, hz, hzs⟩ := elemOk_spec hok
  obtain ⟨ax, cx, news, hvx, hnl, hn1, hnall, hnf⟩ := src_spec (P := P) hr.heap hr.objs hxv hsrc
  have hlen : (Builtin.lenOf vx).run P w = .ok (List.length ys) w := by rw [hvx]; rfl
  have hbytes : ∀ n : Nat, n ≤ 4294967296 → n * inf.bytes ≤ 140737488355328 := fun n hn => Nat.le_trans (Nat.mul_le_mul hn hby) (by decide)
  -- a new row
  have fresh : ∀ (base : Option Addr) (cap : Nat) (olds : List Value), ρ s0 = .slice base (List.length xs) cap → cap < List.length xs + List.length ys →
      olds.length = List.length xs * u.size → (∀ i x, xs[i]? = some x → rep h u x (cut olds (i * u.size) u.size)) → (Builtin.firstCells inf.size (List.length xs) (ρ s0)).run P w.drew = .ok olds.toArray w.drew →
      ∃ r w', (Builtin.append_ #[t, t2] ty #[ρ s0, vx]).run P w = .ok r w' ∧ r.oneCell' = true ∧ hdrOf r = r ∧ RelH C h (upd ρ s0 r) (killF s0 fr) (newL s0 (.que u (xs ++ ys)) L) a w' := by
    intro base cap olds hvs hg2 hol hoall hof
    rw [hvs] at hof ⊢
    have hrun := run_append_new (P := P) (w := w) (ty := ty) hu hu2 hi hz hlen hof (by rw [hisz]; exact hnf w.drew rfl) hg2 (by omega) (growslice_fits hg2 (hbytes _ hsm))
    refine ⟨_, _, hrun, rfl, rfl, ?_⟩
    have hge := grownCap_ge w (List.length xs + List.length ys) cap el
    have hR := hr.newRow s0 hnm u (xs ++ ys) (grownCap w (List.length xs + List.length ys) cap el) (olds.toArray ++ news.toArray ++ Builtin.zeroCells z.cells (grownCap w (List.length xs + List.length ys) cap el - (List.length xs + List.length ys))) el w.drew rfl rfl rfl rfl
      (by
        simp only [Array.size_append, List.size_toArray, size_zeroCells, hzs, hol, hnl, ← Nat.add_mul]
        congr 1
        omega) (by rw [List.length_append]; exact hge) (by rw [List.length_append]; unfold maxSl; omega)
      (by
        simp only [Array.toList_append, List.toList_toArray]
        exact all_append hol hnl hoall hnall)
    rw [List.length_append] at hR
    have hg3 : get (newL s0 (.seq u (xs ++ ys)) L) s0 = some (.seq u (xs ++ ys)) := by rw [get_newL, if_pos rfl]
    refine (hR.toq hg3).less (fun t o ht => ?_)
    rw [get_newL] at ht
    rw [get_put, get_newL]
    by_cases e : s0 = t
    · rw [if_pos e] at ht ⊢; exact ht
    · rw [if_neg e] at ht; rw [if_neg e, if_neg e]; exact ht
  rcases hr.objs _ _ hg with ⟨hrr, hx0⟩ | ⟨b, off, cap, cur, ell, hrr, h1, h2, h3, h4, h5, h6, h7⟩
  · subst hx0
    by_cases hm : List.length ys = 0
    · have hys : ys = [] := List.eq_nil_of_length_eq_zero hm
      subst hys
      have hnews : news = [] := List.eq_nil_of_length_eq_zero (by simpa using hnl)
      subst hnews
      refine ⟨.slice none 0 0, w, ?_, rfl, rfl, ?_⟩
      · have hnf' := hnf w rfl
        simp only [List.length_nil] at hnf' hlen
        simp [Builtin.append_, run_underlying' hu, run_underlying' hu2, sizeOf, typeInfo, hi, hlen, hisz, hnf', hrr]
      · refine hr.fresh_name s0 hnm _ _ _ rfl rfl rfl (Nat.le_refl _) none (fun b hb => by cases hb) (fun _ _ _ => rfl) (.inl ⟨rfl, rfl⟩) (fun b hb => by simp [Blk] at hb) (fun _ b hb => by simp [Blk] at hb)
    · exact fresh none 0 [] (by rw [hrr]; rfl) (by simp; omega) (by simp) (by simp) (by rw [hrr]; simp [Builtin.firstCells])
  · have hle : off + List.length xs * u.size ≤ cur.toList.length := by
      have := Nat.mul_le_mul_right u.size h5
      simp; omega
    by_cases hroom : List.length xs + List.length ys ≤ cap
    · have hfit : off + List.length xs * inf.size + news.length ≤ cur.size := by
        have := Nat.mul_le_mul_right u.size hroom
        rw [Nat.add_mul] at this
        rw [hisz, hnl]; omega
      have hrun := run_append_in_off (P := P) (w := w) (ty := ty) (cap := cap) (n := List.length xs) hu hu2 hi hlen h3 (by rw [hisz]; exact hnf w rfl) hroom hfit hn1
      rw [← hrr] at hrun
      refine ⟨_, _, hrun, rfl, rfl, ?_⟩
      refine hr.fresh_name s0 hnm _ _ _ rfl rfl rfl (by simp [setRow_size]) (some b) ?_ ?_ ?_ ?_ ?_ (hBd := fun b' hb' => .inr fun ds hd => by obtain rfl := Option.some.inj hb'; rw [h3] at hd; cases hd)
      · intro b' hb'
        obtain rfl := Option.some.inj hb'
        exact ⟨h1, h2, fun s' o' hne hg' hbl => hr.apart s0 s' _ o' b (fun e => hne e.symm) hg hg' (by rw [hrr]; rfl) hbl⟩
      · intro k _ hk
        exact setRow_other w b k _ (fun e => hk (by rw [e]))
      · refine .inr ⟨b, off, cap, _, ell, by simp, h1, h2, setRow_heap w b cur _ ell _ h3, ?_, by simpa using hroom, by simp; unfold maxSl; omega, ?_⟩
        · rw [List.size_toArray, over_len _ _ _ (by simpa using hfit)]; simpa using h4
        · simp only [over]
          intro i y hy
          have e1 : (cur.toList.take (off + List.length xs * inf.size)).length = off + List.length xs * u.size := by rw [hisz, List.length_take]; omega
          have e2 : cut (cur.toList.take (off + List.length xs * inf.size) ++ news ++ cur.toList.drop (off + List.length xs * inf.size + news.length)) (off + i * u.size) u.size =
              cut ((cur.toList.take (off + List.length xs * inf.size)).drop off ++ news ++ cur.toList.drop (off + List.length xs * inf.size + news.length)) (i * u.size) u.size := by
            unfold cut
            rw [← List.drop_drop]
            congr 2
            rw [List.append_assoc, List.drop_append_of_le_length (by omega), List.append_assoc]
          rw [e2]
          refine all_append ?_ hnl ?_ hnall i y hy
          · rw [List.length_drop, e1]; omega
          · intro i y hy
            have hi' := (List.getElem?_eq_some_iff.1 hy).1
            have hbi : (i + 1) * u.size ≤ List.length xs * u.size := Nat.mul_le_mul_right _ hi'
            rw [Nat.add_mul, Nat.one_mul] at hbi
            have : cut ((cur.toList.take (off + List.length xs * inf.size)).drop off) (i * u.size) u.size = cut cur.toList (off + i * u.size) u.size := by
              unfold cut
              rw [hisz, List.drop_drop, List.drop_take, List.take_take, Nat.min_eq_left (by omega)]
            rw [this]; exact h7 i y hy
      · intro b' hb' s' o' hne hg' hbl
        simp [Blk] at hb'
        subst hb'
        exact hr.apart s0 s' _ o' b (fun e => hne e.symm) hg hg' (by rw [hrr]; rfl) hbl
      · intro hlt b' hb'
        simp [Blk] at hb'
        subst hb'
        exact hr.low s0 _ b hg hlt (by rw [hrr]; rfl)
    · refine fresh (some ⟨b, off, none⟩) cap (cut cur.toList off (List.length xs * u.size)) hrr (by omega) (cut_len _ _ _ (by omega)) ?_ ?_
      · intro i y hy
        have hi' := (List.getElem?_eq_some_iff.1 hy).1
        have hbi : (i + 1) * u.size ≤ List.length xs * u.size := Nat.mul_le_mul_right _ hi'
        rw [Nat.add_mul, Nat.one_mul] at hbi
        rw [cut_cut _ _ _ _ _ hbi]
        exact h7 i y hy
      · rw [hrr, hisz]
        refine run_firstCells_some (P := P) w.drew u.size (List.length xs) ⟨b, off, none⟩ (List.length xs) cap _ (cut_len _ _ _ (by omega)) ?_
        intro j q hq
        rw [addr_add]
        unfold cut at hq
        rw [List.getElem?_take] at hq
        split at hq
        · rw [List.getElem?_drop] at hq
          have h3' : w.drew.heap[b]? = some (.cells cur ell (0, 0)) := h3
          simpa only [World.cell?, h3', Option.isSome_none, Bool.false_eq_true, if_false, Array.getElem?_toList] using hq
        · simp at hq

/-- one operation on a queue -/
def uDo (P : Program) (n : Nat) (fr : Fr) (L : LL) (o : Oper) : Option (Fr × LL × Prop) :=
  match o.guard, o.dst, o.op with
  | none, some d, .call c =>
    if d < n then
      match c.callee, c.args.toList, c.argTypes.toList with
      | .builtin .len, [x], [t] =>
        match P.underlying t, evS fr none x with
        | some (.slice _), some (.one (.slc s)) => match get L s with
          | some (.que _ xs) => some (putF fr d (.one (ci (List.length xs))), L, True)
          | _ => none
        | _, _ => none
      | .builtin .append, [x, y], [t, t2] =>
        match P.underlying t, P.underlying t2, evS fr none x, srcOf L (evS fr none y) with
        | some (.slice e), some (.slice _), some (.one (.slc s)), some ⟨u, ys⟩ => match get L s with
          | some (.que u' xs) => if h : u = u' then if elemOk P e u' ∧ nameOk s then some (putF (killF s fr) d (.one (.slc s)), newL s (.que u' (xs ++ (h ▸ ys))) L, SmallLen (List.length xs + List.length ys)) else none else none
          | _ => none
        | _, _, _, _ => none
      | _, _, _ => none
    else none
  | none, some d, .slice t x (some lo) none none =>
    if d < n then
      match P.underlying t, evS fr none x, iOf (evS fr none lo) with
      | some (.slice e), some (.one (.slc s)), some k =>
        match get L s with
        | some (.que u xs) => if nameOk s ∧ sizeIs P e u.size ∧ k = 1 then some (putF (killF s fr) d (.one (.slc s)), newL s (.que u (xs.drop 1)) L, 0 < List.length xs) else none
        | _ => none
      | _, _, _ => none
    else none
  | _, _, _ => none

theorem uDo_sound {o : Oper} {fr' : Fr} {L' : LL} {p : Prop} (hs : uDo C.P C.n fr L o = some (fr', L', p)) (hp : p) : o.guard = none ∧ ∀ (h : Heap) (ρ : Nat → Value) (a : Act) (w : World), RelH C h ρ fr L a w →
    ∃ v w', (execOp a.eval o).run C.P w = .ok (.value v) w' ∧ Rel C fr' L' (a.put o.dst v) w' := by
  unfold uDo at hs
  split at hs
  · rename_i d c hgd hdst hop
    refine ⟨hgd, fun h ρ a w hr => ?_⟩
    have hev : ∀ x y, evS fr none x = some y → VRel h ρ a.tmps y (a.eval x) ∧ y.sure = true := fun x y hy => evS_sound hr.fr (fun _ _ e => by cases e) hy
    split at hs
    · rename_i hdn
      split at hs
      · rename_i x t hcal hargs hts
        have ha' : c.args = #[x] := by rw [← Array.toList_inj]; simpa using hargs
        have ht' : c.argTypes = #[t] := by rw [← Array.toList_inj]; simpa using hts
        split at hs
        · rename_i e s hu hx
          split at hs
          · rename_i u xs hg
            simp only [Option.some.injEq, Prod.mk.injEq] at hs
            obtain ⟨rfl, rfl, rfl⟩ := hs
            obtain ⟨q1, ad, cap, q2, _⟩ := que_hdr (hr.objs _ _ hg)
            have hv : a.eval x = .slice ad (List.length xs) cap := by rw [← q2]; exact (hev _ _ hx).1.1.trans q1
            refine ⟨.int .i64 (List.length xs), w, ?_, ?_⟩
            · simp only [execOp, hop, resolve, hcal, ha', ht']
              simp [invoke, builtin, Builtin.len_, run_underlying' hu, hv, goInt]
            · rw [hdst]
              exact ⟨h, ρ, hr.putSlot d _ _ hdn vrel_int⟩
          · simp at hs
        · simp at hs
      · rename_i x y t t2 hcal hargs hts
        have ha' : c.args = #[x, y] := by rw [← Array.toList_inj]; simpa using hargs
        have ht' : c.argTypes = #[t, t2] := by rw [← Array.toList_inj]; simpa using hts
        split at hs
        · rename_i el el2 s u ys hu hu2 hx hsrc
          split at hs
          · rename_i u' xs hg
            split at hs
            · rename_i hue
              subst hue
              split at hs
              · rename_i hc
                obtain ⟨hok, hnm⟩ := hc
                simp only [Option.some.injEq, Prod.mk.injEq] at hs
                obtain ⟨rfl, rfl, rfl⟩ := hs
                have hv : a.eval x = ρ s := (hev _ _ hx).1.1.trans (que_hdr (hr.objs _ _ hg)).1
                obtain ⟨r, w', hrun, h1, hr0, hrel⟩ := que_append hr (P := C.P) (tm := a.tmps) (ty := o.type) (x := evS fr none y) (vx := a.eval y) hu hu2 hg (fun z hz => hev _ z hz) hsrc hok (by unfold SmallLen at hp; omega) hnm
                refine ⟨r, w', ?_, ?_⟩
                · simp only [execOp, hop, resolve, hcal, ha', ht']
                  simp [invoke, builtin, hv, hrun]
                · rw [hdst]
                  exact ⟨_, _, hrel.putSlot d _ _ hdn ⟨by simp [upd, hr0], h1⟩⟩
              · simp at hs
            · simp at hs
          · simp at hs
        · simp at hs
      · simp at hs
    · simp at hs
  · rename_i d t x lo hgd hdst hop
    refine ⟨hgd, fun h ρ a w hr => ?_⟩
    have hev : ∀ x y, evS fr none x = some y → VRel h ρ a.tmps y (a.eval x) ∧ y.sure = true := fun x y hy => evS_sound hr.fr (fun _ _ e => by cases e) hy
    split at hs
    · rename_i hdn
      split at hs
      · rename_i e s k hu hx hk
        split at hs
        · rename_i u xs hg
          split at hs
          · rename_i hc
            obtain ⟨hnm, hsz, rfl⟩ := hc
            have hsz := sizeIs_spec hsz
            simp only [Option.some.injEq, Prod.mk.injEq] at hs
            obtain ⟨rfl, rfl, rfl⟩ := hs
            have hv : a.eval x = ρ s := (hev _ _ hx).1.1.trans (que_hdr (hr.objs _ _ hg)).1
            obtain ⟨kk, hkk⟩ := Good.iOf (h := h) (ρ := ρ) (tm := a.tmps) (fun z hz => hev _ z hz) hk
            have hdl : (xs.drop 1).length = List.length xs - 1 := by simp
            rcases hr.objs _ _ hg with ⟨hrr, hx0⟩ | ⟨b, off, cap, cur, ell, hrr, h1', h2, h3, h4, h5, h6, h7⟩
            · subst hx0; simp at hp
            · obtain ⟨r, hrr2⟩ : ∃ r : Value, r = .slice (if cap = 1 then some ⟨b, off, none⟩ else some ⟨b, off + u.size, none⟩) (List.length xs - 1) (cap - 1) := ⟨_, rfl⟩
              refine ⟨r, w, ?_, ?_⟩
              · simp only [execOp, hop, Option.map_none, Option.map_some, hv, hrr, hkk]
                simp only [Instr.sliceAt, Instr.slice, Sem.run_bind, run_underlying' hu, Result.andThen_ok]
                rw [run_sliceBounds2 (P := C.P) (w := w) (List.length xs) cap (some (.int kk 1)) none 1 (List.length xs) (.inr ⟨kk, rfl⟩) (.inl ⟨rfl, rfl⟩) (by omega) (by omega) (by omega)]
                simp only [Result.andThen_ok, run_sizeOf' hsz, hrr2]
                by_cases hc1 : cap = 1
                · simp [hc1]
                · simp [hc1, addr_add]
              · rw [hdst]
                have hblk : ∀ b', Blk r b' → b' = b := by
                  intro b' hb'
                  rw [hrr2] at hb'
                  by_cases hc1 : cap = 1
                  · rw [if_pos hc1] at hb'; simp [Blk] at hb'; exact hb'.symm
                  · rw [if_neg hc1] at hb'; simp [Blk] at hb'; exact hb'.symm
                refine ⟨h, _, (hr.fresh_name s hnm r (.que u (xs.drop 1)) w rfl rfl rfl (Nat.le_refl _) (some b) ?_ (fun _ _ _ => rfl) ?_ ?_ ?_ (hBd := fun _ _ => .inl rfl)).putSlot d _ _ hdn ⟨by simp [upd, hrr2, hdrOf], by rw [hrr2]; rfl⟩⟩
                · intro b' hb'
                  obtain rfl := Option.some.inj hb'
                  exact ⟨h1', h2, fun s' o' hne hg' hbl => hr.apart s s' _ o' b (fun e => hne e.symm) hg hg' (by rw [hrr]; rfl) hbl⟩
                · by_cases hc1 : cap = 1
                  · refine .inr ⟨b, off, 0, cur, ell, by rw [hrr2, if_pos hc1, hdl, hc1], h1', h2, h3, by simp; omega, by rw [hdl]; omega, by rw [hdl]; omega, ?_⟩
                    intro i' x' hx'
                    have := (List.getElem?_eq_some_iff.1 hx').1
                    rw [hdl] at this; omega
                  · refine .inr ⟨b, off + u.size, cap - 1, cur, ell, by rw [hrr2, if_neg hc1, hdl], h1', h2, h3, ?_, by rw [hdl]; omega, by rw [hdl]; omega, ?_⟩
                    · have : cap * u.size = (cap - 1) * u.size + u.size := by
                        obtain ⟨c', rfl⟩ : ∃ c', cap = c' + 1 := ⟨cap - 1, by omega⟩
                        rw [Nat.succ_mul]; simp
                      omega
                    · intro i' x' hx'
                      rw [List.getElem?_drop] at hx'
                      have := h7 _ x' hx'
                      rw [Nat.add_mul, Nat.one_mul, ← Nat.add_assoc] at this
                      exact this
                · intro b' hb' s' o' hne hg' hbl
                  obtain rfl := hblk b' hb'
                  exact hr.apart s s' _ o' _ (fun e => hne e.symm) hg hg' (by rw [hrr]; rfl) hbl
                · intro hlt' b' hb'
                  obtain rfl := hblk b' hb'
                  exact hr.low s _ _ hg hlt' (by rw [hrr]; rfl)
          · simp at hs
        · simp at hs
      · simp at hs
    · simp at hs
  · simp at hs
def uAt (P : Program) (n : Nat) (ops : Array Oper) (i : Nat) (kF kL : List Nat) (fr : Fr) (L : LL) : Option (Fr × LL × Prop) :=
  match ops[i]? with
  | some o => match uDo P n fr L o with
    | some (f, l, p) => (restr kF kL f l).map fun r => (r.1, r.2, p)
    | none => none
  | none => none
theorem WO_u {ops : Array Oper} {i j : Nat} {fr' : Fr} {L' : LL} {p : Prop} (kF kL : List Nat) (hj : j = i + 1) (h : uAt C.P C.n ops i kF kL fr L = some (fr', L', p)) (hp : p) (hn : WO C ops j Q fr' L') : WO C ops i Q fr L := by
  unfold uAt at h
  split at h
  · rename_i o ho
    split at h
    · rename_i f l q hd
      obtain ⟨⟨f', l'⟩, hre, he⟩ := Option.map_eq_some_iff.1 h
      simp only [Prod.mk.injEq] at he
      obtain ⟨rfl, rfl, rfl⟩ := he
      obtain ⟨hg, hrun⟩ := uDo_sound hd hp
      refine WO_step hj ho hg (fun h ρ a w hr => ?_) hn
      obtain ⟨v, w', hv, hrel⟩ := hrun h ρ a w hr
      exact ⟨v, w', hv, hrel.keep (restr_spec hre).1 (restr_spec hre).2⟩
    · simp at h
  · simp at h

/-- two operations -/
theorem WO_step2 {ops : Array Oper} {i j : Nat} {o1 o2 : Oper} {fr' : Fr} {L' : LL} (hj : j = i + 2) (ho1 : ops[i]? = some o1) (ho2 : ops[i + 1]? = some o2) (hg1 : o1.guard = none) (hg2 : o2.guard = none)
    (hrun : ∀ (h : Heap) (ρ : Nat → Value) (a : Act) (w : World), RelH C h ρ fr L a w → ∃ v1 v2, (execOp a.eval o1).run C.P w = .ok (.value v1) w ∧ (execOp (a.put o1.dst v1).eval o2).run C.P w = .ok (.value v2) w ∧ Rel C fr' L' ((a.put o1.dst v1).put o2.dst v2) w)
    (hn : WO C ops j Q fr' L') : WO C ops i Q fr L := by
  intro a w ⟨h, ρ, hr⟩
  have hdrop : ∀ {k : Nat} {o : Oper}, ops[k]? = some o → ops.toList.drop k = o :: ops.toList.drop (k + 1) := by
    intro k o ho
    have hlen : k < ops.toList.length := by
      have := (Array.getElem?_eq_some_iff.1 ho).1; simpa using this
    rw [← List.getElem_cons_drop hlen]
    congr 1
    have := (Array.getElem?_eq_some_iff.1 ho).2
    simpa using this
  obtain ⟨v1, v2, hv1, hv2, hrel⟩ := hrun h ρ a w hr
  rw [hdrop ho1, hdrop ho2]
  refine wpList_step fun K hK => ?_
  rw [if_pos (by simp [Region.wanted, hg1])]
  unfold Oper.wp
  rw [hv1, Oper.upon_value]
  refine hK _ _ ?_
  refine wpList_step fun K hK => ?_
  rw [if_pos (by simp [Region.wanted, hg2])]
  unfold Oper.wp
  rw [hv2, Oper.upon_value]
  subst hj
  exact hK _ _ (hn _ _ hrel)

/-- an element of a queue is read -/
def uLd (P : Program) (n : Nat) (ops : Array Oper) (i : Nat) (fr : Fr) (L : LL) : Option (Nat × Nat × ((t : Ty) × List t.den) × Int) :=
  match ops[i]?, ops[i + 1]? with
  | some o1, some o2 =>
    match o1.guard, o1.dst, o1.op, o2.guard, o2.dst, o2.op with
    | none, some d1, .indexAddr t x k, none, some d2, .load t2 (.tmp p) =>
      if d1 < n ∧ d2 < n ∧ p = d1 then
        match P.underlying t, evS fr none x, iOf (evS fr none k) with
        | some (.slice e), some (.one (.slc s)), some kk =>
          match get L s, tyAt P t2 with
          | some (.que u xs), some u2 => if u2 = u ∧ sizeIs P e u.size then some (d1, d2, ⟨u, xs⟩, kk) else none
          | _, _ => none
        | _, _, _ => none
      else none
    | _, _, _, _, _, _ => none
  | _, _ => none
theorem WO_qload {ops : Array Oper} {i j : Nat} (d1 d2 : Nat) (u : Ty) (xs : List u.den) (k : Int) (y : u.den) (hj : j = i + 2) (h : uLd C.P C.n ops i fr L = some (d1, d2, ⟨u, xs⟩, k)) (hy : Idx xs k y)
    (hn : WO C ops j Q (putF (putF fr d1 (.one .any)) d2 (aD u y)) L) : WO C ops i Q fr L := by
  unfold uLd at h
  split at h
  · rename_i o1 o2 ho1 ho2
    split at h
    · rename_i d1' t x k' d2' t2 p hg1 hd1 hop1 hg2 hd2 hop2
      split at h
      · rename_i hc
        obtain ⟨hn1, hn2, rfl⟩ := hc
        split at h
        · rename_i e s kk hu hx hk
          split at h
          · rename_i u' xs' u2 hg ht
            split at h
            · rename_i hc
              obtain ⟨rfl, hsz⟩ := hc
              have hsz := sizeIs_spec hsz
              simp only [Option.some.injEq, Prod.mk.injEq, Sigma.mk.injEq] at h
              obtain ⟨rfl, rfl, ⟨rfl, hxs⟩, rfl⟩ := h
              obtain rfl := eq_of_heq hxs
              refine WO_step2 hj ho1 ho2 hg1 hg2 (fun h ρ a w hr => ?_) hn
              have hev : ∀ x y, evS fr none x = some y → VRel h ρ a.tmps y (a.eval x) ∧ y.sure = true := fun x y hy => evS_sound hr.fr (fun _ _ e => by cases e) hy
              have hv : a.eval x = ρ s := (hev _ _ hx).1.1.trans (que_hdr (hr.objs _ _ hg)).1
              obtain ⟨ki, hki⟩ := Good.iOf (h := h) (ρ := ρ) (tm := a.tmps) (fun z hz => hev _ z hz) hk
              obtain ⟨hi0, hix⟩ := hy
              have hlt := (List.getElem?_eq_some_iff.1 hix).1
              have hi2 : kk < (List.length xs' : Int) := by omega
              rcases hr.objs _ _ hg with ⟨hrr, hx0⟩ | ⟨b, off, cap, cur, ell, hrr, h1', h2, h3, h4, h5, h6, h7⟩
              · subst hx0; simp at hlt
              · obtain ⟨v, hv2, hrv⟩ := run_loadVar_cut (P := C.P) (w := w) ht h3 (h7 _ _ hix)
                refine ⟨.pointer (some ⟨b, off + kk.toNat * u2.size, none⟩), v, ?_, ?_, ?_⟩
                · simp only [execOp, hop1, hv, hrr, hki]
                  simp only [Instr.indexAt, asIntOf, Sem.run_bind, Sem.run_pure, Result.andThen_ok, run_underlying' hu]
                  simp [hi0, hi2, run_sizeOf' hsz, addr_add]
                · have he : (a.put o1.dst (.pointer (some ⟨b, off + kk.toNat * u2.size, none⟩))).eval (.tmp p) = .pointer (some ⟨b, off + kk.toNat * u2.size, none⟩) := by
                    have hsz' : p < a.tmps.size := by rw [hr.size]; exact hn1
                    rw [hd1]
                    simp [Act.put, Act.eval, Array.getD_eq_getD_getElem?, hsz']
                  simp only [execOp, hop2, he]
                  simp [Instr.loadAt, Instr.sureAddr, hv2]
                · rw [hd1, hd2]
                  exact ⟨h, ρ, (hr.putSlot p (.one .any) _ hn1 trivial).putSlot d2' (aD u2 y) v hn2 hrv⟩
            · simp at h
          · simp at h
        · simp at h
      · simp at h
    · simp at h
  · simp at h
end
end Go.Sl
