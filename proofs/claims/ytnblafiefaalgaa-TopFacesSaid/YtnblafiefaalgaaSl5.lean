/- Chains in such regions, and ranges over functions, of the certifying translation. -/
import Derived.Test.YtnblafiefaalgaaSl4
import Derived.RangeFuncSeq
import Derived.RangeFuncIn
set_option linter.all false
/- Calls in general: handed objects, some of which may be laid anew, and new objects that come back; results of any shape. -/
namespace Go.Sl
open Go

def anew (σ : List (Nat × Nat)) (Lin : LL) (nn : List Nat) : List Nat := movedOf σ Lin ++ nn.map (sig σ)
section
variable {C : Ctx} {h : Heap} {ρ : Nat → Value} {fr : Fr} {L : LL} {a : Act} {w : World}

variable {Q : Post}
end

section
variable {C : Ctx} {fr : Fr} {L : LL} {a : Act} {w : World}
variable {Q : Post} {c : Code} {ops : Array Oper} {e : Exit}
end
end Go.Sl

/- Calls in general, as steps of a chain in regions that draw their order. -/
namespace Go.Sl
open Go
section
variable {C : Ctx} {L : LL}
end
end Go.Sl

/- Regions that draw their order, in which a variable is read by operations that come ahead of the one that sets it anew. -/
namespace Go.Sl
open Go
section
variable {C : Ctx} {fr : Fr} {L : LL}

end
end Go.Sl

/- Go's copy: into a slice of one's own, from data or from a part of the same slice. -/
namespace Go.Sl
open Go

def eCopy (P : Program) (L : LL) (t : TypeId) (x y : Option AV) : Option (Nat × LObj × Int × Prop) :=
 match P.underlying t, x, y with
 | some (.slice e), some (.one (.slc s)), some (.one (.dat (.slice v) ys)) =>
  match get L s with
  | some (.seq u xs) => if h : v = u then if sizeIs P e 1 && u.size == 1 then some (s, .seq u (over xs 0 (h ▸ ys)), List.length ys, List.length ys ≤ List.length xs) else none else none
  | _ => none
 | some (.slice e), some (.one (.sub s z a b)), some (.one (.sub s' z' c d)) =>
  if s' = s ∧ z = 1 ∧ z' = 1 then
   match get L s with
   | some (.seq u xs) => if sizeIs P e 1 && u.size == 1 then some (s, .seq u (over xs a.toNat (((xs.drop c.toNat).take (d.toNat - c.toNat)).take (b.toNat - a.toNat))), min (d - c) (b - a), True) else none
   | _ => none
  else none
 | _, _, _ => none

section
variable {P : Program} {h : Heap} {ρ : Nat → Value} {L : LL} {w : World} {tm : Array Value}

theorem run_copy0 {t e : TypeId} (hu : P.underlying t = some (.slice e)) (hz : (P.info? e).map (·.size) = some 1) {ts : Array TypeId} (hts : ts[0]? = some t) (ty : TypeId) {db sb : Option Addr} {dl dc sl sc : Nat} (hn : Nat.min sl dl = 0) :
  (Builtin.copy_ ts ty #[.slice db dl dc, .slice sb sl sc]).run P w = .ok (.int .i64 0) w := by
 have hz' := run_sizeOf' (w := w) hz
 unfold Builtin.copy_
 simp only [hts]
 simp only [Sem.run_bind, run_underlying' hu, Result.andThen_ok, Builtin.lenOf, Sem.run_pure, hn, hz', List.getElem?_toArray, List.getElem?_cons_zero, List.getElem?_cons_succ]
 cases sb <;> cases db <;> simp [Builtin.firstCells, loadCells, loadCellsFrom, storeCells, goInt, hz']

theorem run_copyN {t e el : TypeId} (hu : P.underlying t = some (.slice e)) (hz : (P.info? e).map (·.size) = some 1) {ts : Array TypeId} (hts : ts[0]? = some t) (ty : TypeId) {b o : Nat} {src : Value} {sb : Option Addr} {dl dc sl sc : Nat} (hs : src = .slice sb sl sc)
  {news : List Value} {cur : Array Value} (hf : (Builtin.firstCells 1 (Nat.min sl dl) src).run P w = .ok news.toArray w) (hb : w.heap[b]? = some (.cells cur el (0, 0))) (hfit : o + news.length ≤ cur.size) (h1 : ∀ v ∈ news, v.oneCell' = true) :
  (Builtin.copy_ ts ty #[.slice (some ⟨b, o, none⟩) dl dc, src]).run P w = .ok (.int .i64 (Nat.min sl dl)) (w.setRow b (over cur.toList o news).toArray) := by
 have hz' := run_sizeOf' (w := w) hz
 have hst := run_storeCells_at P b o el news 0 cur w hb (by simpa using hfit) h1
 simp only [Nat.add_zero] at hst
 subst hs
 unfold Builtin.copy_
 simp only [hts]
 simp only [Sem.run_bind, run_underlying' hu, Result.andThen_ok, Builtin.lenOf, Sem.run_pure, hz', List.getElem?_toArray, List.getElem?_cons_zero, List.getElem?_cons_succ, hf]
 simp [hst, over, goInt]

theorem rep1 {u : Ty} (hu : u.size = 1) {xs : List u.den} {cs : List Value} (hl : List.length xs ≤ cs.length) :
  (∀ (j : Nat) (x : u.den), xs[j]? = some x → rep h u x (cut cs (j * u.size) u.size)) ↔ ∀ (j : Nat) (x : u.den), xs[j]? = some x → ∃ c, cs[j]? = some c ∧ rep h u x [c] := by
 have cut1 : ∀ j c, cs[j]? = some c → cut cs j 1 = [c] := by
  intro j c hc
  obtain ⟨hj, rfl⟩ := List.getElem?_eq_some_iff.1 hc
  unfold cut
  rw [List.drop_eq_getElem_cons hj]; rfl
 constructor
 ·intro hall j x hx
  have hj := (List.getElem?_eq_some_iff.1 hx).1
  refine ⟨cs[j], List.getElem?_eq_getElem (by omega), ?_⟩
  have := hall j x hx
  rw [hu, Nat.mul_one, cut1 j _ (List.getElem?_eq_getElem (by omega))] at this
  exact this
 ·intro hall j x hx
  obtain ⟨c, hc, hr⟩ := hall j x hx
  rw [hu, Nat.mul_one, cut1 j c hc]
  exact hr
theorem getElem?_over {α : Type} (xs ys : List α) (o j : Nat) (h : o + ys.length ≤ xs.length) : (over xs o ys)[j]? = if j < o then xs[j]? else if j < o + ys.length then ys[j - o]? else xs[j]? := by
 unfold over
 rw [List.append_assoc, List.getElem?_append]
 have hl : (xs.take o).length = o := by simp; omega
 rw [hl]
 split
 ·rename_i hj; rw [List.getElem?_take_of_lt hj]
 ·rw [List.getElem?_append]
  split
  ·rename_i h1 h2; rw [if_pos (by omega)]
  ·rename_i h1 h2
   rw [if_neg (by omega), List.getElem?_drop]
   congr 1; omega
theorem rep1_over {u : Ty} (hu : u.size = 1) {xs ys : List u.den} {cs news : List Value} {o : Nat} (hl : List.length xs ≤ cs.length) (hn : news.length = List.length ys) (ho : o + List.length ys ≤ List.length xs)
  (hx : ∀ j x, xs[j]? = some x → rep h u x (cut cs (j * u.size) u.size)) (hy : ∀ j y, ys[j]? = some y → rep h u y (cut news (j * u.size) u.size)) :
  ∀ j x, (over xs o ys)[j]? = some x → rep h u x (cut (over cs o news) (j * u.size) u.size) := by
 have lx : List.length (over xs o ys) = List.length xs := over_len xs o ys ho
 have lc : List.length (over cs o news) = List.length cs := over_len cs o news (by rw [hn]; omega)
 rw [rep1 hu (by rw [lx, lc]; exact hl)]
 rw [rep1 hu hl] at hx
 rw [rep1 hu (by omega)] at hy
 intro j x hj
 rw [getElem?_over _ _ _ _ ho] at hj
 rw [getElem?_over _ _ _ _ (by rw [hn]; omega), hn]
 split
 ·rename_i h1; rw [if_pos h1] at hj; exact hx j x hj
 ·rename_i h1
  rw [if_neg h1] at hj
  split
  ·rename_i h2; rw [if_pos h2] at hj; exact hy _ x hj
  ·rename_i h2; rw [if_neg h2] at hj; exact hx j x hj

theorem put_same {C : Ctx} {fr : Fr} {a : Act} (hr : RelH C h ρ fr L a w) {s : Nat} {o : LObj} (hg : get L s = some o) : RelH C h ρ fr (put L s o) a w :=
 hr.less fun t x ht => by
  rw [get_put] at ht
  split at ht
  ·rename_i e; subst e; rw [hg]; exact ht
  ·exact ht

theorem eCopy_sound {C : Ctx} {fr : Fr} {a : Act} (hr : RelH C h ρ fr L a w) {t : TypeId} {ts : Array TypeId} (hts : ts[0]? = some t) (ty : TypeId) {x y : Option AV} {u v : Value} {s : Nat} {o' : LObj} {r : Int} {ob : Prop}
  (hx : Good h ρ tm x u) (hy : Good h ρ tm y v) (hs : eCopy P L t x y = some (s, o', r, ob)) (ho : ob) :
  ∃ w', (Builtin.copy_ ts ty #[u, v]).run P w = .ok (.int .i64 r) w' ∧ RelH C h ρ fr (put L s o') a w' := by
 unfold eCopy at hs
 split at hs
 ·rename_i e s1 vv ys hu
  split at hs
  ·rename_i uu xs hg
   split at hs
   ·rename_i hvu
    subst hvu
    split at hs
    ·rename_i hc
     simp only [Bool.and_eq_true, beq_iff_eq] at hc
     obtain ⟨hz, hu1⟩ := hc
     have hz := sizeIs_spec hz
     simp only [Option.some.injEq, Prod.mk.injEq] at hs
     obtain ⟨rfl, rfl, rfl, rfl⟩ := hs
     have hle : List.length ys ≤ List.length xs := by exact_mod_cast ho
     obtain ⟨sb, sc, news, rfl, hnl, hn1, hnr, hnf⟩ := src_spec (P := P) (L := L) (own := C.own) hr.heap (fun s x hg => hr.objs s x hg) hy (show srcOf L (some (.one (.dat (.slice vv) ys))) = some ⟨vv, ys⟩ from rfl)
     obtain rfl : u = ρ s1 := (hx _ rfl).1.1.trans (seq_hdr (hr.objs _ _ hg)).1
     rw [hu1, Nat.mul_one] at hnl
     by_cases hne : xs = []
     ·subst hne
      have hy0 : ys = [] := List.eq_nil_of_length_eq_zero (by simpa using hle)
      subst hy0
      rcases hr.objs _ _ hg with ⟨hrr, _⟩ | ⟨b, cap, cur, el, hrr, _⟩
      ·exact ⟨w, by rw [hrr]; exact run_copy0 hu hz hts ty rfl, put_same hr hg⟩
      ·exact ⟨w, by rw [hrr]; exact run_copy0 hu hz hts ty rfl, put_same hr hg⟩
     ·rcases hr.objs _ _ hg with ⟨_, h0⟩ | ⟨b, cap, cur, el, hrr, h1, h2, h3, h4, h5, h6, h7⟩
      ·exact (hne h0).elim
      ·obtain ⟨cur', e', hc', hl', hall', hfin⟩ := elem_cells hr (.inl hg) (.inr ⟨_, _, by rw [hrr]; rfl⟩) hne
       rw [h3] at hc'
       simp only [Option.some.injEq, Obj.cells.injEq] at hc'
       obtain ⟨rfl, rfl, _⟩ := hc'
       rw [hu1, Nat.mul_one] at hl'
       have hmin : Nat.min (List.length ys) (List.length xs) = List.length ys := Nat.min_eq_left hle
       refine ⟨_, ?_, (hfin (over xs 0 ys) (over cur.toList 0 news) (over_len _ _ _ (by omega)) (over_len _ _ _ (by omega)) ?_).1 hg⟩
       ·rw [hrr]
        have := run_copyN (P := P) (w := w) (dl := List.length xs) (dc := cap) hu hz hts ty (sb := sb) (sl := List.length ys) (sc := sc) rfl (news := news) (cur := cur) (o := 0) (by rw [hmin]; have := hnf w rfl; rwa [hu1] at this) h3 (by simp at hl' ⊢; omega) hn1
        rw [hmin] at this; exact this
       ·exact rep1_over hu1 hl' hnl (by omega) hall' hnr
    ·simp at hs
   ·simp at hs
  ·simp at hs
 ·rename_i e s1 z ia ib s2 z2 ic id_ hu
  split at hs
  ·rename_i hcond
   obtain ⟨rfl, rfl, rfl⟩ := hcond
   split at hs
   ·rename_i uu xs hg
    split at hs
    ·rename_i hc
     simp only [Bool.and_eq_true, beq_iff_eq] at hc
     obtain ⟨hz, hu1⟩ := hc
     have hz := sizeIs_spec hz
     simp only [Option.some.injEq, Prod.mk.injEq] at hs
     obtain ⟨rfl, rfl, rfl, rfl⟩ := hs
     obtain ⟨bs, n, cap, hrs, a0, a1, a2, a3, rfl⟩ := (hx _ rfl).1
     obtain ⟨bs2, n2, cap2, hrs2, c0, c1, c2, c3, rfl⟩ := (hy _ rfl).1
     rw [hrs] at hrs2
     simp only [Value.slice.injEq] at hrs2
     obtain ⟨rfl, rfl, rfl⟩ := hrs2
     rw [(seq_hdr (hr.objs _ _ hg)).1] at hrs
     have key : (∃ k : Nat, (min (id_ - ic) (ib - ia) : Int) = k ∧ Nat.min (id_.toNat - ic.toNat) (ib.toNat - ia.toNat) = k) := ⟨Nat.min (id_.toNat - ic.toNat) (ib.toNat - ia.toNat), by show (min (id_ - ic) (ib - ia) : Int) = (min (id_.toNat - ic.toNat) (ib.toNat - ia.toNat) : Nat); omega, rfl⟩
     obtain ⟨k, hk1, hk2⟩ := key
     rw [hk1]
     have hn : n = List.length xs := by
      rcases hr.objs _ _ hg with ⟨hrr, hx0⟩ | ⟨b, cap', cur, el, hrr, _⟩
      ·rw [hrr] at hrs; simp only [Value.slice.injEq] at hrs; rw [hx0]; exact hrs.2.1.symm
      ·rw [hrr] at hrs; simp only [Value.slice.injEq] at hrs; exact hrs.2.1.symm
     subst hn
     obtain ⟨ys, hys⟩ : ∃ ys, ((xs.drop ic.toNat).take (id_.toNat - ic.toNat)).take (ib.toNat - ia.toNat) = ys := ⟨_, rfl⟩
     have hyl : List.length ys = k := by rw [← hys]; simp only [List.length_take, List.length_drop]; rw [← hk2]; show _ = min (id_.toNat - ic.toNat) (ib.toNat - ia.toNat); omega
     have hyg : ∀ j y, ys[j]? = some y → xs[ic.toNat + j]? = some y := by
      intro j y hj
      rw [← hys, List.getElem?_take] at hj
      split at hj
      ·rw [List.getElem?_take] at hj
       split at hj
       ·rwa [List.getElem?_drop] at hj
       ·cases hj
      ·cases hj
     rw [hys]
     by_cases hk0 : k = 0
     ·subst hk0
      have hy0 : ys = [] := List.eq_nil_of_length_eq_zero hyl
      subst hy0
      refine ⟨w, run_copy0 hu hz hts ty hk2, ?_⟩
      have : over xs ia.toNat [] = xs := by simp [over]
      rw [this]; exact put_same hr hg
     ·have hne : xs ≠ [] := by rintro rfl; simp at a2 c2; omega
      rcases hr.objs _ _ hg with ⟨_, h0⟩ | ⟨b, cap', cur, el, hrr, h1, h2, h3, h4, h5, h6, h7⟩
      ·exact (hne h0).elim
      ·rw [hrr] at hrs
       simp only [Value.slice.injEq] at hrs
       obtain ⟨rfl, _, rfl⟩ := hrs
       obtain ⟨cur', e', hc', hl', hall', hfin⟩ := elem_cells hr (.inl hg) (.inr ⟨_, _, by rw [hrr]; rfl⟩) hne
       rw [h3] at hc'
       simp only [Option.some.injEq, Obj.cells.injEq] at hc'
       obtain ⟨rfl, rfl, _⟩ := hc'
       have hl2 := hl'
       rw [hu1, Nat.mul_one] at hl2
       have hcs : cur.toList.length = cur.size := by simp
       obtain ⟨news, hnews⟩ : ∃ news, cut cur.toList ic.toNat k = news := ⟨_, rfl⟩
       have hnl : news.length = k := by rw [← hnews]; exact cut_len _ _ _ (by omega)
       have hng : ∀ j, j < k → news[j]? = cur.toList[ic.toNat + j]? := by
        intro j hj
        rw [← hnews]; unfold cut
        rw [List.getElem?_take_of_lt hj, List.getElem?_drop]
       have hall1 := (rep1 hu1 hl2).1 hall'
       have hyr : ∀ j y, ys[j]? = some y → rep h uu y (cut news (j * uu.size) uu.size) := by
        rw [rep1 hu1 (by omega)]
        intro j y hj
        have hjk : j < k := by have := (List.getElem?_eq_some_iff.1 hj).1; omega
        rw [hng j hjk]
        exact hall1 _ _ (hyg j y hj)
       have hn1 : ∀ v ∈ news, v.oneCell' = true := by
        have := rep_oneCell (h := h) (.arr (List.length ys) uu) ys news ⟨rfl, by rw [hu1, Nat.mul_one, hnl, hyl], hyr⟩
        exact this
       have hca : ¬ cap' = ia.toNat := by omega
       have hcc : ¬ cap' = ic.toNat := by omega
       refine ⟨_, ?_, (hfin (over xs ia.toNat ys) (over cur.toList ia.toNat news) (over_len _ _ _ (by omega)) (over_len _ _ _ (by omega)) ?_).1 hg⟩
       ·have hf : (Builtin.firstCells 1 k (.slice (some ⟨b, ic.toNat, none⟩) (id_.toNat - ic.toNat) (cap' - ic.toNat))).run P w = .ok news.toArray w := by
         have := run_firstCells_some (P := P) w 1 k ⟨b, ic.toNat, none⟩ (id_.toNat - ic.toNat) (cap' - ic.toNat) news (by omega) ?_
         ·exact this
         ·intro j q hq
          have hjk : j < k := by have := (List.getElem?_eq_some_iff.1 hq).1; omega
          rw [hng j hjk] at hq
          rw [addr_add]
          simpa [World.cell?, h3] using hq
        have := run_copyN (P := P) (w := w) (b := b) (o := ia.toNat) (dl := ib.toNat - ia.toNat) (dc := cap' - ia.toNat) hu hz hts ty (sb := some ⟨b, ic.toNat, none⟩) (sl := id_.toNat - ic.toNat) (sc := cap' - ic.toNat) rfl (news := news) (cur := cur) (by rw [hk2]; exact hf) h3 (by omega) hn1
        rw [hk2] at this
        rw [if_neg hca, if_neg hcc]
        simp only [Option.map_some, addr_add, Nat.zero_add, Nat.mul_one]
        exact this
       ·exact rep1_over hu1 hl2 (by omega) (by omega) hall' hyr
    ·simp at hs
   ·simp at hs
  ·simp at hs
 ·simp at hs
end

section
variable {C : Ctx} {fr : Fr} {L : LL} {Q : Post}
def copyOp (P : Program) (fr : Fr) (L : LL) (o : Oper) : Option (Nat × LObj × Int × Prop) :=
 match o.guard, o.op with
 | none, .call c => match c.callee, c.args.toList, c.argTypes.toList with
  | .builtin .copy, [x, y], t :: _ => eCopy P L t (evS fr none x) (evS fr none y)
  | _, _, _ => none
 | _, _ => none
theorem copyOp_sound {o : Oper} {h : Heap} {ρ : Nat → Value} {a : Act} {w : World} {s : Nat} {o' : LObj} {r : Int} {p : Prop} (hs : copyOp C.P fr L o = some (s, o', r, p)) (hp : p) (hr : RelH C h ρ fr L a w) :
  o.guard = none ∧ ∃ w', (execOp a.eval o).run C.P w = .ok (.value (.int .i64 r)) w' ∧ RelH C h ρ fr (put L s o') a w' := by
 unfold copyOp at hs
 split at hs
 ·rename_i c hgd hop
  refine ⟨hgd, ?_⟩
  split at hs
  ·rename_i x y t ts hcal hargs hts
   have ha' : c.args = #[x, y] := by rw [← Array.toList_inj]; simpa using hargs
   have ht' : c.argTypes[0]? = some t := by rw [← Array.getElem?_toList, hts]; rfl
   have hev : ∀ x, Good h ρ a.tmps (evS fr none x) (a.eval x) := fun x y hy => evS_sound hr.fr (fun _ _ e => by cases e) hy
   obtain ⟨w', hrun, hrel⟩ := eCopy_sound hr ht' o.type (hev x) (hev y) hs hp
   refine ⟨w', ?_, hrel⟩
   simp only [execOp, hop, resolve, hcal, ha']
   simp [invoke, builtin, hrun]
  ·simp at hs
 ·simp at hs
def copyAt (P : Program) (n : Nat) (ops : Array Oper) (i : Nat) (fr : Fr) (L : LL) : Option (Nat × Nat × LObj × Int × Prop) :=
 match ops[i]? with
 | some o => match o.dst with
  | some d => if d < n then (copyOp P fr L o).map fun r => (d, r) else none
  | none => none
 | none => none
theorem copyAt_spec {ops : Array Oper} {i d s : Nat} {o' : LObj} {r : Int} {p : Prop} {n : Nat} {P : Program} (h : copyAt P n ops i fr L = some (d, s, o', r, p)) : ∃ o, ops[i]? = some o ∧ o.dst = some d ∧ d < n ∧ copyOp P fr L o = some (s, o', r, p) := by
 unfold copyAt at h
 split at h
 ·rename_i o ho
  split at h
  ·rename_i d' hd
   split at h
   ·rename_i hdn
    obtain ⟨⟨r1, r2, r3, r4⟩, hr, he⟩ := Option.map_eq_some_iff.1 h
    simp only [Prod.mk.injEq] at he
    obtain ⟨rfl, rfl, rfl, rfl, rfl⟩ := he
    exact ⟨o, ho, hd, hdn, hr⟩
   ·cases h
  ·cases h
 ·cases h
theorem WO_copy {ops : Array Oper} {i j d s : Nat} {o' : LObj} {r : Int} {p : Prop} (hj : j = i + 1) (h : copyAt C.P C.n ops i fr L = some (d, s, o', r, p)) (hp : p)
  (hn : WO C ops j Q (putF fr d (.one (.dat (.int .i64) r))) (put L s o')) : WO C ops i Q fr L := by
 obtain ⟨o, ho, hd, hdn, hc⟩ := copyAt_spec h
 intro a w hr0
 have hg : o.guard = none := by obtain ⟨h0, ρ, hr⟩ := hr0; exact (copyOp_sound hc hp hr).1
 refine WO_step hj ho hg (fun h0 ρ a w hr => ?_) hn a w hr0
 obtain ⟨_, w', hrun, hrel⟩ := copyOp_sound hc hp hr
 refine ⟨_, w', hrun, ?_⟩
 rw [hd]
 exact ⟨h0, ρ, hrel.putSlot d _ _ hdn vrel_int⟩

end
end Go.Sl

/- A slice compared with nil. -/
namespace Go.Sl
open Go
section
variable {P : Program} {w : World}
theorem run_equal_nil {t e : TypeId} (hu : P.underlying t = some (.slice e)) (a : Option Addr) (n c : Nat) : (Op.equal t (.slice a n c) (.slice none 0 0)).run P w = .ok a.isNone w := by
 show (Op.equalIn (9999 + 1) t (.slice a n c) (.slice none 0 0)).run P w = _
 rw [Op.equalIn]
 cases a <;> simp [run_underlying' hu]
theorem run_eql_nil {t e : TypeId} (hu : P.underlying t = some (.slice e)) (a : Option Addr) (n c : Nat) : (binOp .eql t (.slice a n c) (.slice none 0 0)).run P w = .ok (.bool a.isNone) w := by
 show (do pure (Value.bool (← Op.equal t (.slice a n c) (.slice none 0 0))) : Sem Value).run P w = _
 rw [Sem.run_bind, run_equal_nil hu]; rfl
end

def nilcmpAt (P : Program) (ops : Array Oper) (i : Nat) (fr : Fr) : Option (Nat × ((t : Ty) × List t.den)) :=
 match ops[i]? with
 | some o => match o.guard, o.dst, o.op with
  | none, some d, .binOp .eql t x (.const (.slice none 0 0)) _ => match P.underlying t, evS fr none x with
   | some (.slice _), some (.one (.dat (.slice u) xs)) => some (d, ⟨u, xs⟩)
   | _, _ => none
  | _, _, _ => none
 | none => none

section
variable {C : Ctx} {fr : Fr} {L : LL} {Q : Post}
theorem WO_nilcmp {ops : Array Oper} {i j d : Nat} {u : Ty} {xs : List u.den} (hj : j = i + 1) (hd : decide (d < C.n) = true) (ha : nilcmpAt C.P ops i fr = some (d, ⟨u, xs⟩))
  (hn : ∀ z : Bool, (z = true → xs = []) → WO C ops j Q (putF fr d (aB z)) L) : WO C ops i Q fr L := by
 intro a w ⟨h, ρ, hr⟩
 unfold nilcmpAt at ha
 split at ha
 ·rename_i o ho
  split at ha
  ·rename_i d' t x yt hg hdst hop
   split at ha
   ·rename_i e u' xs' hu hx
    simp only [Option.some.injEq, Prod.mk.injEq, Sigma.mk.injEq] at ha
    obtain ⟨rfl, rfl, ha⟩ := ha
    obtain rfl := eq_of_heq ha
    have hlen : i < ops.toList.length := by
     have := (Array.getElem?_eq_some_iff.1 ho).1; simpa using this
    have hdrop : ops.toList.drop i = o :: ops.toList.drop j := by
     rw [hj, ← List.getElem_cons_drop hlen]
     congr 1
     have := (Array.getElem?_eq_some_iff.1 ho).2
     simpa using this
    have hv := (evS_sound hr.fr (gd := none) (fun _ _ e => by cases e) hx).1
    obtain ⟨ad, cap, hval, hl, hc, hrest⟩ := sl_form (repV_slice.1 hv)
    rw [hdrop]
    refine wpList_step fun K hK => ?_
    rw [if_pos (by simp [Region.wanted, hg])]
    unfold Oper.wp
    have hrun : (execOp a.eval o).run C.P w = .ok (.value (.bool ad.isNone)) w := by
     have hcst : a.eval (.const (.slice none 0 0)) = .slice none 0 0 := rfl
     have hg2 : ∀ p q n, (eqGuard .eql t p q (.slice ad n cap) (.slice none 0 0)).run C.P w = .ok () w := by
      intro p q n
      unfold eqGuard
      simp
     simp only [execOp, hop, Sem.run_bind, hcst, hval, hg2, Result.andThen_ok, run_eql_nil hu]
     rfl
    rw [hrun, Oper.upon_value, hdst]
    refine hK _ _ (hn ad.isNone (fun hz => ?_) _ _ ⟨h, ρ, hr.putSlot _ _ _ (of_decide_eq_true hd) ((repV_bool (h := h)).2 rfl)⟩)
    cases ad with
    | some _ => cases hz
    | none =>
     rcases hrest with he | ⟨b, off, blk, he, _⟩
     ·exact he
     ·cases he
   ·simp at ha
  ·simp at ha
 ·simp at ha
end
end Go.Sl

/- A loop whose first round is another; a slice of one's own, not empty, compared with nil. -/
namespace Go.Sl
open Go

section
variable {C : Ctx} {B : Code} {p : List Nat} {Q : Post} {fr fr' : Fr} {L L' : LL}
end
end Go.Sl

/- Ranges over a function: a round's body by contract. (Under way: what is here is not yet used.) -/
namespace Go.Sl
open Go

end Go.Sl

/- The region in which a function that is ranged over calls yield. (Under way.) -/
namespace Go.Sl
open Go

structure RecOk (rec : Loop) (n p d : Nat) : Prop where
 st : rec.state = .ready
 pe : rec.pending = none
 tm : rec.tmps.size = n
 ps : rec.params = #[p]
 as : ∃ id o, rec.assign = .region id #[o] false ∧ o.guard = none ∧ o.dst = some d ∧ o.op = .assign (.tmp p)
 hp : p < n
 hd : d < n
section
variable {C : Ctx} {B : Code} {p : List Nat} {Q : Post} {fr fr1 : Fr} {L L1 : LL}
end
end Go.Sl

/- A range over a function, for the caller. (Under way.) -/
namespace Go.Sl
open Go

section
variable {C : Ctx} {h : Heap} {ρ : Nat → Value} {fr : Fr} {L : LL} {a : Act} {w : World}
end
end Go.Sl

