/- The model words, typed data and the operations that touch no memory, of the certifying translation. -/
import GoSem.Core.View
import Derived.Tactics
import Derived.Laws.AppendOwn
import Derived.Laws.Cells
import Derived.Laws.Rows
import Derived.Laws.CopyRow
import Derived.KernelRfl
import Derived.Orders
set_option linter.all false
/- What the functional models are written in. -/
namespace Go.Sl
open Go

inductive Flow (X Y : Type) where
  | next (x : X)
  | done (y : Y)

/-- how a loop is left: by a return, or behind it -/
inductive Esc (R V : Type) where
  | ret (r : R)
  | brk (v : V)

def iter {X Y : Type} (f : X → Option (Flow X Y)) : Nat → X → Option Y
  | 0, _ => none
  | n + 1, x =>
    match f x with
    | some (.next x') => iter f n x'
    | some (.done y) => some y
    | none => none

def w64 (n : Int) : Int := IntKind.i64.wrap n
def bAnd (k : IntKind) (a b : Int) : Int := k.wrap (BitVec.ofInt k.bits a &&& BitVec.ofInt k.bits b).toNat
def bOr (k : IntKind) (a b : Int) : Int := k.wrap (BitVec.ofInt k.bits a ||| BitVec.ofInt k.bits b).toNat
def bXor (k : IntKind) (a b : Int) : Int := k.wrap (BitVec.ofInt k.bits a ^^^ BitVec.ofInt k.bits b).toNat
def bClr (k : IntKind) (a b : Int) : Int := k.wrap (BitVec.ofInt k.bits a &&& ~~~ BitVec.ofInt k.bits b).toNat
def bShl (k : IntKind) (a b : Int) : Int := k.wrap (a * 2 ^ min b.toNat k.bits)
def bShr (k : IntKind) (a b : Int) : Int := a.fdiv (2 ^ min b.toNat k.bits)
def imin (a b : Int) : Int := if b < a then b else a
def imax (a b : Int) : Int := if b > a then b else a

def idx {α : Type} (xs : List α) (i : Int) : Option α := if 0 ≤ i then xs[i.toNat]? else none
def ck (p : Prop) [Decidable p] : Option Unit := if p then some () else none
def sub {α : Type} (xs : List α) (l m : Int) : List α := (xs.drop l.toNat).take (m.toNat - l.toNat)

theorem ck_some {p : Prop} [Decidable p] {u : Unit} (h : ck p = some u) : p := by
  unfold ck at h
  split at h
  · assumption
  · cases h
theorem ofT {α : Type} {c : Bool} {a b r : α} (hc : c = true) (h : (bif c then a else b) = r) : a = r := by subst hc; exact h
theorem ofF {α : Type} {c : Bool} {a b r : α} (hc : c = false) (h : (bif c then a else b) = r) : b = r := by subst hc; exact h
theorem bind_of {α β : Type} {o : Option α} {f : α → Option β} {r : β} (h : o.bind f = some r) : ∃ x, o = some x ∧ f x = some r := Option.bind_eq_some_iff.1 h

/-! ### counted loops -/
def loopI {X Y : Type} (body : Int → X → Option (Flow X Y)) (fin : X → Y) : Nat → Int → X → Option Y
  | 0, _, x => some (fin x)
  | k + 1, i, x =>
    match body i x with
    | some (.next x') => loopI body fin k (i + 1) x'
    | some (.done y) => some y
    | none => none
def forI {X Y : Type} (lo hi : Int) (body : Int → X → Option (Flow X Y)) (fin : X → Y) (x : X) : Option Y :=
  if -9223372036854775808 ≤ lo ∧ hi ≤ 9223372036854775807 then loopI body fin (hi - lo).toNat lo x else none
@[reducible] def liftI {X Y : Type} (i : Int) : Flow X Y → Flow (Int × X) Y
  | .next x => .next (w64 (i + 1), x)
  | .done y => .done y
def stepI {X Y : Type} (hi : Int) (body : Int → X → Option (Flow X Y)) (fin : X → Y) : Int × X → Option (Flow (Int × X) Y) := fun s =>
  bif decide (s.1 < hi) then (match body s.1 s.2 with | some t => some (liftI s.1 t) | none => none) else some (.done (fin s.2))

def forL {α X Y : Type} (body : Int → α → X → Option (Flow X Y)) (fin : X → Y) : List α → Int → X → Option Y
  | [], _, x => some (fin x)
  | a :: l, i, x =>
    match body i a x with
    | some (.next x') => forL body fin l (i + 1) x'
    | some (.done y) => some y
    | none => none
def stepL {α X Y : Type} (l : List α) (body : Int → α → X → Option (Flow X Y)) (fin : X → Y) : Int × X → Option (Flow (Int × X) Y) := fun s =>
  bif decide (s.1 < (l.length : Int)) then (match idx l s.1 with | some a => (match body s.1 a s.2 with | some t => some (liftI s.1 t) | none => none) | none => none) else some (.done (fin s.2))

theorem w64_id {n : Int} (h1 : -9223372036854775808 ≤ n) (h2 : n ≤ 9223372036854775807) : w64 n = n := by
  unfold w64 IntKind.wrap
  simp only [IntKind.bits, IntKind.signed, Bool.true_and, Int.reducePow, Nat.reduceSub]
  split
  · rename_i h; have h := of_decide_eq_true h; omega
  · rename_i h; have h := of_decide_eq_false (Bool.eq_false_iff.2 h); omega

theorem stepI_true {X Y : Type} {hi : Int} {body : Int → X → Option (Flow X Y)} {fin : X → Y} {i : Int} {x : X} {s : Flow (Int × X) Y} (hc : decide (i < hi) = true) (h : stepI hi body fin (i, x) = some s) : ∃ t, body i x = some t ∧ s = liftI i t := by
  unfold stepI at h
  have h := ofT hc h
  split at h
  · rename_i t ht; exact ⟨t, ht, (Option.some.inj h).symm⟩
  · cases h
theorem stepI_false {X Y : Type} {hi : Int} {body : Int → X → Option (Flow X Y)} {fin : X → Y} {i : Int} {x : X} {s : Flow (Int × X) Y} (hc : decide (i < hi) = false) (h : stepI hi body fin (i, x) = some s) : s = .done (fin x) := by
  unfold stepI at h
  exact (Option.some.inj (ofF hc h)).symm
theorem stepL_true {α X Y : Type} {l : List α} {body : Int → α → X → Option (Flow X Y)} {fin : X → Y} {i : Int} {x : X} {s : Flow (Int × X) Y} (hc : decide (i < (l.length : Int)) = true) (h : stepL l body fin (i, x) = some s) :
    ∃ a t, idx l i = some a ∧ body i a x = some t ∧ s = liftI i t := by
  unfold stepL at h
  have h := ofT hc h
  split at h
  · rename_i a ha
    split at h
    · rename_i t ht; exact ⟨a, t, ha, ht, (Option.some.inj h).symm⟩
    · cases h
  · cases h
theorem stepL_false {α X Y : Type} {l : List α} {body : Int → α → X → Option (Flow X Y)} {fin : X → Y} {i : Int} {x : X} {s : Flow (Int × X) Y} (hc : decide (i < (l.length : Int)) = false) (h : stepL l body fin (i, x) = some s) : s = .done (fin x) := by
  unfold stepL at h
  exact (Option.some.inj (ofF hc h)).symm

theorem loopI_iter {X Y : Type} {body : Int → X → Option (Flow X Y)} {fin : X → Y} {hi : Int} (hhi : hi ≤ 9223372036854775807) : ∀ (k : Nat) (i : Int) (x : X) (y : Y), -9223372036854775808 ≤ i → (hi - i).toNat = k → loopI body fin k i x = some y →
    iter (stepI hi body fin) (k + 1) (i, x) = some y
  | 0, i, x, y, _, hk, h => by
    have hc : decide (i < hi) = false := by simp; omega
    simp only [loopI] at h
    simp only [iter, stepI, hc, cond_false]
    exact h
  | k + 1, i, x, y, hi0, hk, h => by
    have hc : decide (i < hi) = true := by simp; omega
    simp only [loopI] at h
    simp only [iter, stepI, hc, cond_true]
    cases hb : body i x with
    | none => rw [hb] at h; cases h
    | some t =>
      rw [hb] at h
      cases t with
      | done y' => exact h
      | next x' =>
        simp only [liftI]
        rw [w64_id (by omega) (by omega)]
        exact loopI_iter hhi k (i + 1) x' y (by omega) (by omega) h
theorem forI_iter {X Y : Type} {body : Int → X → Option (Flow X Y)} {fin : X → Y} {lo hi : Int} {x : X} {y : Y} (h : forI lo hi body fin x = some y) : ∃ m, iter (stepI hi body fin) m (lo, x) = some y := by
  unfold forI at h
  split at h
  · rename_i hc
    exact ⟨_, loopI_iter hc.2 _ lo x y hc.1 rfl h⟩
  · cases h
theorem forL_iter' {α X Y : Type} {body : Int → α → X → Option (Flow X Y)} {fin : X → Y} {l : List α} (hl : l.length ≤ 9223372036854775807) : ∀ (r p : List α) (x : X) (y : Y), l = p ++ r → forL body fin r (p.length : Int) x = some y →
    iter (stepL l body fin) (r.length + 1) ((p.length : Int), x) = some y
  | [], p, x, y, hp, h => by
    have hc : decide ((p.length : Int) < (l.length : Int)) = false := by simp [hp]
    simp only [forL] at h
    simp only [List.length_nil, iter, stepL, hc, cond_false]
    exact h
  | a :: r, p, x, y, hp, h => by
    have hlen : l.length = p.length + (r.length + 1) := by simp [hp]
    have hc : decide ((p.length : Int) < (l.length : Int)) = true := by simp; omega
    have hx : idx l (p.length : Int) = some a := by simp [idx, hp]
    simp only [forL] at h
    rw [List.length_cons, iter]
    simp only [stepL, hc, cond_true, hx]
    cases hb : body (p.length : Int) a x with
    | none => rw [hb] at h; cases h
    | some t =>
      rw [hb] at h
      cases t with
      | done y' => exact h
      | next x' =>
        simp only [liftI]
        rw [w64_id (by omega) (by omega)]
        have := forL_iter' hl r (p ++ [a]) x' y (by simp [hp]) (by simpa using h)
        rw [List.length_append, List.length_singleton] at this
        exact this
theorem forL_iter {α X Y : Type} {body : Int → α → X → Option (Flow X Y)} {fin : X → Y} {l : List α} {x : X} {y : Y} (hl : l.length ≤ 9223372036854775807) (h : forL body fin l 0 x = some y) : ∃ m, iter (stepL l body fin) m (0, x) = some y :=
  ⟨_, forL_iter' hl l [] x y rfl h⟩
end Go.Sl

/- The base of the certifying translation: typed data, abstract values, the relation to the machine's memory. -/
namespace Go.Sl
open Go

/-- binary trees: pointers to nodes of two numbers and two such pointers -/
inductive CT where
  | nil
  | node (k v : Int) (a b : CT)

/-- codes of the types of data -/
inductive Ty where
  | int (k : IntKind)
  | bool
  | str
  | slice (t : Ty)
  | pair (t u : Ty)
  | wrap (t : Ty)
  | arr (n : Nat) (t : Ty)
  | tree
  deriving DecidableEq

@[reducible] def Ty.den : Ty → Type
  | .int _ => Int
  | .bool => Bool
  | .str => ByteArray
  | .slice t => List t.den
  | .pair t u => t.den × u.den
  | .wrap t => t.den
  | .arr _ t => List t.den
  | .tree => CT

def Ty.size : Ty → Nat
  | .pair t u => t.size + u.size
  | .wrap t => t.size
  | .arr n t => n * t.size
  | _ => 1

def Ty.isAgg : Ty → Bool
  | .pair _ _ | .wrap _ | .arr _ _ => true
  | _ => false

/-- what is known of blocks: the first cells -/
abbrev Heap := Nat → Option (List Value)

def Ext (h h' : Heap) : Prop := ∀ b xs, h b = some xs → h' b = some xs
theorem Ext.refl (h : Heap) : Ext h h := fun _ _ e => e
theorem Ext.trans {a b c : Heap} (h : Ext a b) (k : Ext b c) : Ext a c := fun x xs e => k x xs (h x xs e)

def maxSl : Nat := 9223372036854775807

/-- cells of a block from a place on -/
def cut (blk : List Value) (off n : Nat) : List Value := (blk.drop off).take n

/-- a cell that holds a pointer to a tree -/
def repT (h : Heap) : CT → List Value → Prop
  | .nil, cs => cs = [.pointer none]
  | .node k v a b, cs => ∃ b0 off blk va vb, cs = [.pointer (some ⟨b0, off, none⟩)] ∧ h b0 = some blk ∧ off + 4 ≤ blk.length ∧ cut blk off 4 = [.int .i64 k, .int .i64 v, va, vb] ∧ repT h a [va] ∧ repT h b [vb]
theorem repT_len {h : Heap} : ∀ (x : CT) (cs : List Value), repT h x cs → cs.length = 1 ∧ ∀ v ∈ cs, v.oneCell' = true
  | .nil, cs, e => by simp only [repT] at e; subst e; simp [Value.oneCell']
  | .node k v a b, cs, e => by simp only [repT] at e; obtain ⟨b0, off, blk, va, vb, rfl, _⟩ := e; simp [Value.oneCell']
theorem repT_ptr {h : Heap} : ∀ (x : CT) (cs : List Value), repT h x cs → ∃ a, cs = [.pointer a]
  | .nil, cs, e => ⟨none, e⟩
  | .node k v a b, cs, e => by simp only [repT] at e; obtain ⟨b0, off, blk, va, vb, rfl, _⟩ := e; exact ⟨_, rfl⟩
theorem repT_mono {h h' : Heap} (hx : Ext h h') : ∀ (x : CT) (cs : List Value), repT h x cs → repT h' x cs
  | .nil, cs, e => e
  | .node k v a b, cs, e => by
    simp only [repT] at e ⊢
    obtain ⟨b0, off, blk, va, vb, rfl, h1, h2, h3, h4, h5⟩ := e
    exact ⟨b0, off, blk, va, vb, rfl, hx _ _ h1, h2, h3, repT_mono hx a _ h4, repT_mono hx b _ h5⟩

/-- cells read as a datum -/
def rep (h : Heap) : (t : Ty) → t.den → List Value → Prop
  | .int k, n, cs => cs = [.int k n]
  | .bool, b, cs => cs = [.bool b]
  | .str, s, cs => cs = [.string s]
  | .slice t, xs, cs => ∃ a cap, cs = [.slice a (List.length xs) cap] ∧ List.length xs ≤ maxSl ∧ List.length xs ≤ cap ∧
      (xs = [] ∨ ∃ b off blk, a = some ⟨b, off, none⟩ ∧ h b = some blk ∧ off + List.length xs * t.size ≤ blk.length ∧
        ∀ i x, xs[i]? = some x → rep h t x (cut blk (off + i * t.size) t.size))
  | .pair t u, p, cs => ∃ c1 c2, cs = c1 ++ c2 ∧ rep h t p.1 c1 ∧ rep h u p.2 c2
  | .wrap t, x, cs => rep h t x cs
  | .arr n t, xs, cs => List.length xs = n ∧ cs.length = n * t.size ∧ ∀ i x, xs[i]? = some x → rep h t x (cut cs (i * t.size) t.size)
  | .tree, x, cs => repT h x cs

theorem rep_len (h : Heap) : ∀ (t : Ty) (x : t.den) (cs : List Value), rep h t x cs → cs.length = t.size
  | .int k, n, cs, e => by simp only [rep] at e; subst e; rfl
  | .bool, b, cs, e => by simp only [rep] at e; subst e; rfl
  | .str, s, cs, e => by simp only [rep] at e; subst e; rfl
  | .slice t, xs, cs, e => by simp only [rep] at e; obtain ⟨a, cap, rfl, _⟩ := e; rfl
  | .pair t u, p, cs, e => by
    simp only [rep] at e; obtain ⟨c1, c2, rfl, h1, h2⟩ := e
    simp [Ty.size, rep_len h t _ _ h1, rep_len h u _ _ h2]
  | .wrap t, x, cs, e => by simp only [rep] at e; simpa [Ty.size] using rep_len h t x cs e
  | .arr n t, xs, cs, e => by simp only [rep] at e; simpa [Ty.size] using e.2.1
  | .tree, x, cs, e => by simp only [rep] at e; simpa [Ty.size] using (repT_len x cs e).1

theorem rep_mono {h h' : Heap} (hx : Ext h h') : ∀ (t : Ty) (x : t.den) (cs : List Value), rep h t x cs → rep h' t x cs
  | .int k, n, cs, e => e
  | .bool, b, cs, e => e
  | .str, s, cs, e => e
  | .slice t, xs, cs, e => by
    simp only [rep] at e ⊢
    obtain ⟨a, cap, rfl, hm, hc, hr⟩ := e
    refine ⟨a, cap, rfl, hm, hc, hr.imp id ?_⟩
    rintro ⟨b, off, blk, rfl, hb, hl, hi⟩
    exact ⟨b, off, blk, rfl, hx b blk hb, hl, fun i x hix => rep_mono hx t x _ (hi i x hix)⟩
  | .pair t u, p, cs, e => by
    simp only [rep] at e ⊢; obtain ⟨c1, c2, rfl, h1, h2⟩ := e
    exact ⟨c1, c2, rfl, rep_mono hx t _ _ h1, rep_mono hx u _ _ h2⟩
  | .wrap t, x, cs, e => by simp only [rep] at e ⊢; exact rep_mono hx t x cs e
  | .arr n t, xs, cs, e => by
    simp only [rep] at e ⊢
    exact ⟨e.1, e.2.1, fun i x hix => rep_mono hx t x _ (e.2.2 i x hix)⟩
  | .tree, x, cs, e => by simp only [rep] at e ⊢; exact repT_mono hx x cs e

/-- a value reads as a datum -/
def RepV (h : Heap) (t : Ty) (x : t.den) (v : Value) : Prop :=
  if t.isAgg then ∃ cs : Array Value, v = .agg cs ∧ rep h t x cs.toList else rep h t x [v]

theorem RepV.mono {h h' : Heap} (hx : Ext h h') {t : Ty} {x : t.den} {v : Value} (e : RepV h t x v) : RepV h' t x v := by
  unfold RepV at *
  split at e
  · rename_i ha
    obtain ⟨cs, rfl, hr⟩ := e
    rw [if_pos ha]
    exact ⟨cs, rfl, rep_mono hx _ _ _ hr⟩
  · rename_i ha
    rw [if_neg ha]
    exact rep_mono hx _ _ _ e

/-- the cells of a value that reads as a datum -/
theorem RepV.cells {h : Heap} {t : Ty} {x : t.den} {v : Value} (e : RepV h t x v) : rep h t x v.cells.toList := by
  unfold RepV at e
  split at e
  · obtain ⟨cs, rfl, hr⟩ := e; exact hr
  · rename_i ha
    have : v.cells = #[v] := by
      cases t <;> simp only [rep, Ty.isAgg, not_true_eq_false] at e ha <;> first
        | (obtain ⟨a, cap, e, _⟩ := e; simp at e; subst e; rfl)
        | (obtain ⟨a, e⟩ := repT_ptr _ _ e; simp at e; subst e; rfl)
        | (simp at e; subst e; rfl)
    rw [this]; exact e

theorem RepV.of_cells {h : Heap} {t : Ty} {x : t.den} {cs : List Value} (e : rep h t x cs) :
    (t.isAgg = true → RepV h t x (.agg cs.toArray)) ∧ (t.isAgg = false → ∃ v, cs = [v] ∧ RepV h t x v) := by
  constructor
  · intro ha; unfold RepV; rw [if_pos ha]; exact ⟨_, rfl, by simpa using e⟩
  · intro ha
    have hl := rep_len h t x cs e
    have hs : t.size = 1 := by cases t <;> simp_all [Ty.isAgg, Ty.size]
    rw [hs] at hl
    match cs, hl with
    | [v], _ => exact ⟨v, rfl, by unfold RepV; rw [if_neg (by simp [ha])]; exact e⟩

/-- one cell holds no struct, array or tuple -/
theorem rep_one {h : Heap} : ∀ (t : Ty) (x : t.den) (cs : List Value), rep h t x cs → (∀ v ∈ cs, v.oneCell' = true) ∨ ∃ n u, t = .arr n u ∨ t.isAgg = true
  | .int k, n, cs, e => by simp only [rep] at e; subst e; left; simp [Value.oneCell']
  | .bool, b, cs, e => by simp only [rep] at e; subst e; left; simp [Value.oneCell']
  | .str, s, cs, e => by simp only [rep] at e; subst e; left; simp [Value.oneCell']
  | .slice t, xs, cs, e => by simp only [rep] at e; obtain ⟨a, cap, rfl, _⟩ := e; left; simp [Value.oneCell']
  | .pair t u, p, cs, e => .inr ⟨0, .bool, .inr rfl⟩
  | .wrap t, p, cs, e => .inr ⟨0, .bool, .inr rfl⟩
  | .arr n t, p, cs, e => .inr ⟨0, .bool, .inr rfl⟩
  | .tree, x, cs, e => .inl (by simp only [rep] at e; exact (repT_len x cs e).2)

theorem mem_cut {v : Value} {cs : List Value} {n k : Nat} (h : v ∈ cut cs n k) : v ∈ cs := List.mem_of_mem_drop (List.mem_of_mem_take h)

theorem rep_oneCell {h : Heap} : ∀ (t : Ty) (x : t.den) (cs : List Value), rep h t x cs → ∀ v ∈ cs, v.oneCell' = true
  | .int k, n, cs, e => by simp only [rep] at e; subst e; simp [Value.oneCell']
  | .bool, b, cs, e => by simp only [rep] at e; subst e; simp [Value.oneCell']
  | .str, s, cs, e => by simp only [rep] at e; subst e; simp [Value.oneCell']
  | .slice t, xs, cs, e => by simp only [rep] at e; obtain ⟨a, cap, rfl, _⟩ := e; simp [Value.oneCell']
  | .pair t u, p, cs, e => by
    simp only [rep] at e; obtain ⟨c1, c2, rfl, h1, h2⟩ := e
    intro v hv
    rcases List.mem_append.1 hv with hv | hv
    · exact rep_oneCell t _ _ h1 v hv
    · exact rep_oneCell u _ _ h2 v hv
  | .wrap t, x, cs, e => by simp only [rep] at e; exact rep_oneCell t x cs e
  | .arr n t, xs, cs, e => by
    simp only [rep] at e
    obtain ⟨hn, hl, hi⟩ := e
    intro v hv
    obtain ⟨j, hj, rfl⟩ := List.getElem_of_mem hv
    have hs : 0 < t.size := by
      rcases Nat.eq_zero_or_pos t.size with h0 | h0
      · rw [h0, Nat.mul_zero] at hl; omega
      · exact h0
    have hq : j / t.size < n := by rw [Nat.div_lt_iff_lt_mul hs]; omega
    have hx : xs[j / t.size]? = some (xs[j / t.size]'(by omega)) := List.getElem?_eq_getElem _
    have hr := rep_oneCell t _ _ (hi _ _ hx)
    have hmod := Nat.mod_lt j hs
    have hdm := Nat.div_add_mod j t.size
    have hme : cs[j] ∈ cut cs (j / t.size * t.size) t.size := by
      unfold cut
      refine List.mem_of_getElem? (i := j % t.size) ?_
      rw [List.getElem?_take_of_lt hmod, List.getElem?_drop]
      have : j / t.size * t.size + j % t.size = j := by rw [Nat.mul_comm]; exact hdm
      rw [this]; exact List.getElem?_eq_getElem hj
    exact hr _ hme
  | .tree, x, cs, e => by simp only [rep] at e; exact (repT_len x cs e).2

/-! trees -/
def CT.open : CT → Option (Int × Int × CT × CT)
  | .nil => none
  | .node k v a b => some (k, v, a, b)
def CT.mk (p : Int × Int × CT × CT) : CT := .node p.1 p.2.1 p.2.2.1 p.2.2.2
def CT.isNil : CT → Bool
  | .nil => true
  | _ => false
def castTy {t u : Ty} (h : t = u) (x : t.den) : u.den := h ▸ x
@[reducible] def tyNode : Ty := .pair (.int .i64) (.pair (.int .i64) (.pair .tree .tree))
theorem repT_open {h : Heap} {x : CT} {p : Int × Int × CT × CT} {cs : List Value} (hp : x.open = some p) (e : repT h x cs) : ∃ b off blk, cs = [.pointer (some ⟨b, off, none⟩)] ∧ h b = some blk ∧ off + 4 ≤ blk.length ∧ rep h tyNode p (cut blk off 4) := by
  cases x with
  | nil => cases hp
  | node k v a b =>
    simp only [CT.open, Option.some.injEq] at hp
    subst hp
    simp only [repT] at e
    obtain ⟨b0, off, blk, va, vb, rfl, h1, h2, h3, h4, h5⟩ := e
    refine ⟨b0, off, blk, rfl, h1, h2, ?_⟩
    rw [h3]
    exact ⟨[.int .i64 k], [.int .i64 v, va, vb], rfl, rfl, [.int .i64 v], [va, vb], rfl, rfl, [va], [vb], rfl, h4, h5⟩
theorem repT_mk {h : Heap} {p : Int × Int × CT × CT} {b off : Nat} {blk : List Value} (h1 : h b = some blk) (h2 : off + 4 ≤ blk.length) (e : rep h tyNode p (cut blk off 4)) : repT h (CT.mk p) [.pointer (some ⟨b, off, none⟩)] := by
  simp only [rep] at e
  obtain ⟨c1, c2, e0, rfl, c3, c4, rfl, rfl, c5, c6, rfl, h5, h6⟩ := e
  have l5 := (repT_len _ _ h5).1
  have l6 := (repT_len _ _ h6).1
  match c5, c6, l5, l6 with
  | [va], [vb], _, _ => exact ⟨b, off, blk, va, vb, rfl, h1, h2, by rw [e0]; rfl, h5, h6⟩
theorem repT_nil {h : Heap} {x : CT} {cs : List Value} (e : repT h x cs) : ∃ a, cs = [.pointer a] ∧ a.isNone = x.isNil := by
  cases x with
  | nil => exact ⟨none, e, rfl⟩
  | node k v a b =>
    simp only [repT] at e
    obtain ⟨b0, off, blk, va, vb, rfl, _⟩ := e
    exact ⟨_, rfl, rfl⟩
end Go.Sl

/- Abstract values and the operations that touch no memory. -/
namespace Go.Sl
open Go

/-- abstract values of one cell, or typed data -/
inductive SV where
  | any
  | dat (t : Ty) (x : t.den)
  | cdat (t : Ty) (xs : List t.den)
  | nilS
  | nilP
  | nilM
  | ptr (s o : Nat)
  | slc (s : Nat)
  | eptr (s z : Nat) (i : Int) (o : Nat)
  | dptr (t : Ty) (x : t.den)
  | fn (f : Nat) (caps : List (Nat × Nat))
  | sub (s z : Nat) (a b : Int)
  | yl (l : Nat)
  | rhd (s : Nat) (i : Int)

inductive AV where
  | one (x : SV)
  | agg (cs : List SV)
  | tup (vs : List SV)
  | mb (g : Nat) (b : Bool) (x : SV)

inductive LObj where
  | one (t : Ty) (x : t.den)
  | cells (cs : List SV)
  | seq (t : Ty) (xs : List t.den)
  | map (k t : Ty) (m : Option (List (k.den × t.den)))
  | raw (b : Nat) (o : Obj)
  | rows (d : Nat) (t : Ty) (xs : List t.den) (hs : List (Int × Bool × SV))
  | que (t : Ty) (xs : List t.den)

inductive All2 {α β : Type} (R : α → β → Prop) : List α → List β → Prop
  | nil : All2 R [] []
  | cons {a b l m} (h : R a b) (t : All2 R l m) : All2 R (a :: l) (b :: m)

abbrev Fr := List (Nat × AV)
abbrev LL := List (Nat × LObj)

def get {α : Type} : List (Nat × α) → Nat → Option α
  | [], _ => none
  | (k, v) :: l, t => if k = t then some v else get l t
def del {α : Type} : List (Nat × α) → Nat → List (Nat × α)
  | [], _ => []
  | (k, v) :: l, t => if k = t then del l t else (k, v) :: del l t
def put {α : Type} (l : List (Nat × α)) (t : Nat) (v : α) : List (Nat × α) := (t, v) :: del l t

theorem get_del {α : Type} (l : List (Nat × α)) (t u : Nat) : get (del l t) u = if t = u then none else get l u := by
  induction l with
  | nil => simp [del, get]
  | cons p l ih =>
    obtain ⟨k, v⟩ := p
    by_cases hk : k = t
    · subst hk
      rw [del, if_pos rfl, ih]
      by_cases hu : k = u <;> simp [get, hu]
    · rw [del, if_neg hk, get, get, ih]
      by_cases hu : k = u
      · subst hu; simp [Ne.symm hk]
      · simp [hu]
theorem get_put {α : Type} (l : List (Nat × α)) (t u : Nat) (v : α) : get (put l t v) u = if t = u then some v else get l u := by
  unfold put
  rw [get, get_del]
  by_cases h : t = u <;> simp [h]

def Refs (ρ : Nat → Value) (p : Nat × Nat) (v : Value) : Prop := ∃ b, ρ p.1 = .pointer (some ⟨b, 0, none⟩) ∧ v = .pointer (some ⟨b, p.2, none⟩)

/-- names of slices of slices of one's own stand for: the slice, what heads its rows have, the blocks that belong to it -/
def mkR (hd : Value) (heads : List Value) (F : List Nat) : Value := .tuple #[hd, .agg heads.toArray, .agg (F.map fun b => Value.map (some b)).toArray]
def hdrOf : Value → Value
  | .tuple vs => vs.getD 0 (.bool false)
  | v => v
def headsOf : Value → List Value
  | .tuple vs => match vs.getD 1 (.bool false) with
    | .agg cs => cs.toList
    | _ => []
  | _ => []
/-- the blocks that belong to what a name stands for -/
def Blk : Value → Nat → Prop
  | .pointer (some a), b => a.block = b
  | .slice (some a) _ _, b => a.block = b
  | .map (some c), b => c = b
  | .tuple vs, b => match vs.getD 2 (.bool false) with
    | .agg ms => Value.map (some b) ∈ ms.toList
    | _ => False
  | _, _ => False
theorem blk_mkR {hd : Value} {heads : List Value} {F : List Nat} {b : Nat} : Blk (mkR hd heads F) b ↔ b ∈ F := by
  simp [Blk, mkR]
theorem hdrOf_mkR {hd : Value} {heads : List Value} {F : List Nat} : hdrOf (mkR hd heads F) = hd := rfl
theorem headsOf_mkR {hd : Value} {heads : List Value} {F : List Nat} : headsOf (mkR hd heads F) = heads := by simp [headsOf, mkR]

/-- an abstract value stands for a value -/
def SRel (h : Heap) (ρ : Nat → Value) : SV → Value → Prop
  | .any, _ => True
  | .dat t x, v => RepV h t x v
  | .cdat t xs, v => ∃ a, v = .slice a (List.length xs) (List.length xs) ∧ rep h (.slice t) xs [v]
  | .nilS, v => v = .slice none 0 0
  | .nilP, v => v = .pointer none
  | .nilM, v => v = .map none
  | .ptr s o, v => Refs ρ (s, o) v
  | .slc s, v => v = hdrOf (ρ s) ∧ v.oneCell' = true
  | .eptr s z i o, v => ∃ b, (ρ s = .pointer (some ⟨b, 0, none⟩) ∨ ∃ n c, hdrOf (ρ s) = .slice (some ⟨b, 0, none⟩) n c) ∧ 0 ≤ i ∧ v = .pointer (some ⟨b, i.toNat * z + o, none⟩)
  | .dptr t x, v => ∃ b off blk, h b = some blk ∧ off + t.size ≤ blk.length ∧ rep h t x (cut blk off t.size) ∧ v = .pointer (some ⟨b, off, none⟩)
  | .fn f caps, v => ∃ cs : List Value, v = .func (.func f) #[] cs.toArray ∧ All2 (Refs ρ) caps cs
  | .sub s z a b, v => ∃ bs n cap, hdrOf (ρ s) = .slice bs n cap ∧ 0 ≤ a ∧ a ≤ b ∧ b ≤ n ∧ n ≤ cap ∧ v = .slice (if cap = a.toNat then bs else bs.map (·.add (a.toNat * z))) (b.toNat - a.toNat) (cap - a.toNat)
  | .yl l, v => v = .func (.yield l) #[] #[]
  | .rhd s i, v => 0 ≤ i ∧ (headsOf (ρ s))[i.toNat]? = some v ∧ v.oneCell' = true

def VRel (h : Heap) (ρ : Nat → Value) (tm : Array Value) : AV → Value → Prop
  | .one x, v => SRel h ρ x v
  | .agg cs, v => ∃ vs : List Value, v = .agg vs.toArray ∧ All2 (SRel h ρ) cs vs
  | .tup cs, v => ∃ vs : List Value, v = .tuple vs.toArray ∧ All2 (SRel h ρ) cs vs
  | .mb g b x, v => tm[g]? = some (.bool b) → SRel h ρ x v

theorem SRel.mono {h h' : Heap} {ρ : Nat → Value} (hx : Ext h h') {x : SV} {v : Value} (e : SRel h ρ x v) : SRel h' ρ x v := by
  cases x <;> simp only [SRel] at e ⊢ <;> try exact e
  · exact e.mono hx
  · obtain ⟨a, rfl, hr⟩ := e; exact ⟨a, rfl, rep_mono hx _ _ _ hr⟩
  · obtain ⟨b, off, blk, hb, hl, hr, rfl⟩ := e
    exact ⟨b, off, blk, hx b blk hb, hl, rep_mono hx _ _ _ hr, rfl⟩

theorem forall2_imp {α β : Type} {R S : α → β → Prop} (hi : ∀ a b, R a b → S a b) : ∀ {l : List α} {m : List β}, All2 R l m → All2 S l m
  | _, _, .nil => .nil
  | _, _, .cons h t => .cons (hi _ _ h) (forall2_imp hi t)

theorem forall2_get {α β : Type} {R : α → β → Prop} : ∀ {l : List α} {m : List β}, All2 R l m → ∀ (i : Nat) (a : α), l[i]? = some a → ∃ b, m[i]? = some b ∧ R a b
  | _, _, .nil, i, a, h => by simp at h
  | _, _, .cons h t, 0, a, e => by simp at e; subst e; exact ⟨_, rfl, h⟩
  | _, _, .cons h t, i + 1, a, e => by simpa using forall2_get t i a (by simpa using e)

theorem forall2_len {α β : Type} {R : α → β → Prop} : ∀ {l : List α} {m : List β}, All2 R l m → l.length = m.length
  | _, _, .nil => rfl
  | _, _, .cons _ t => by simp [forall2_len t]

theorem VRel.mono {h h' : Heap} {ρ : Nat → Value} {tm : Array Value} (hx : Ext h h') {x : AV} {v : Value} (e : VRel h ρ tm x v) : VRel h' ρ tm x v := by
  cases x <;> simp only [VRel] at e ⊢
  · exact e.mono hx
  · obtain ⟨vs, rfl, hf⟩ := e; exact ⟨vs, rfl, forall2_imp (fun _ _ => SRel.mono hx) hf⟩
  · obtain ⟨vs, rfl, hf⟩ := e; exact ⟨vs, rfl, forall2_imp (fun _ _ => SRel.mono hx) hf⟩
  · exact fun ht => (e ht).mono hx

/-! ### which types -/
def structTy : List (Option Ty) → Option Ty
  | [] => none
  | [some a] => some a
  | some a :: rest => (structTy rest).map (.pair a)
  | none :: _ => none

def tyOf (P : Program) : Nat → TypeId → Option Ty
  | 0, _ => none
  | n + 1, t =>
    match P.underlying t with
    | some (.int k) => some (.int k)
    | some .bool => some .bool
    | some .string => some .str
    | some (.slice e) => (tyOf P n e).map .slice
    | some (.pointer e) =>
      match P.underlying e with
      | some (.struct fs) =>
        match fs.toList.map (·.type) with
        | [k, v, a, b] =>
          match P.underlying k, P.underlying v, P.underlying a, P.underlying b with
          | some (.int .i64), some (.int .i64), some (.pointer e1), some (.pointer e2) => if e1 = e ∧ e2 = e then some .tree else none
          | _, _, _, _ => none
        | _ => none
      | _ => none
    | some (.array m e) => (tyOf P n e).map (.arr m)
    | some (.struct fs) =>
      match fs.toList.map fun f => tyOf P n f.type with
      | [some a] => some (.wrap a)
      | l => structTy l
    | _ => none

def aggOf (P : Program) (t : TypeId) : Option Bool :=
  match P.underlying t with
  | some (.struct _) | some (.array _ _) => some true
  | some _ => some false
  | none => none

/-- the code of a type, held against the program's own numbers -/
def tyAt (P : Program) (t : TypeId) : Option Ty :=
  match tyOf P 12 t with
  | some u => if (P.info? t).map (·.size) = some u.size ∧ aggOf P t = some u.isAgg then some u else none
  | none => none

theorem tyAt_spec {P : Program} {t : TypeId} {u : Ty} (h : tyAt P t = some u) : (P.info? t).map (·.size) = some u.size ∧ aggOf P t = some u.isAgg := by
  unfold tyAt at h
  split at h
  · split at h
    · rename_i hc; simp at h; subst h; exact hc
    · simp at h
  · simp at h

/-- a part of a datum, by its place among the cells -/
def getAt : (t : Ty) → t.den → (off : Nat) → (u : Ty) → Option u.den
  | .pair a b, x, off, u =>
    if h : Ty.pair a b = u ∧ off = 0 then some (h.1 ▸ x)
    else if off < a.size then getAt a x.1 off u else getAt b x.2 (off - a.size) u
  | .wrap a, x, off, u => if h : Ty.wrap a = u ∧ off = 0 then some (h.1 ▸ x) else getAt a x off u
  | t, x, off, u => if h : t = u ∧ off = 0 then some (h.1 ▸ x) else none

theorem cut_full (cs : List Value) (n : Nat) (h : cs.length = n) : cut cs 0 n = cs := by simp [cut, ← h]
theorem cut_cut (cs : List Value) (a n b m : Nat) (h : b + m ≤ n) : cut (cut cs a n) b m = cut cs (a + b) m := by
  unfold cut
  rw [List.drop_take, List.drop_drop, List.take_take, Nat.min_eq_left (by omega)]
theorem cut_len (cs : List Value) (a n : Nat) (h : a + n ≤ cs.length) : (cut cs a n).length = n := by simp [cut]; omega

theorem cast_rep {h : Heap} {t u : Ty} (e : t = u) (x : t.den) (cs : List Value) (hr : rep h t x cs) : rep h u (e ▸ x) cs := by subst e; exact hr

theorem getAt_rep {h : Heap} : ∀ (t : Ty) (x : t.den) (off : Nat) (u : Ty) (y : u.den) (cs : List Value), rep h t x cs → getAt t x off u = some y →
    off + u.size ≤ t.size ∧ rep h u y (cut cs off u.size)
  | .pair a b, x, off, u, y, cs, hr, hg => by
    unfold getAt at hg
    split at hg
    · rename_i hc; obtain ⟨rfl, rfl⟩ := hc
      simp at hg; subst hg
      exact ⟨by omega, by rw [cut_full _ _ (rep_len h _ _ _ hr)]; exact hr⟩
    · simp only [rep] at hr
      obtain ⟨c1, c2, rfl, h1, h2⟩ := hr
      have l1 := rep_len h _ _ _ h1
      have l2 := rep_len h _ _ _ h2
      split at hg
      · rename_i hlt
        obtain ⟨hb, hy⟩ := getAt_rep a x.1 off u y c1 h1 hg
        refine ⟨by simp [Ty.size]; omega, ?_⟩
        have : cut (c1 ++ c2) off u.size = cut c1 off u.size := by
          unfold cut
          rw [List.drop_append_of_le_length (by omega), List.take_append_of_le_length (by simp; omega)]
        rw [this]; exact hy
      · rename_i hge
        obtain ⟨hb, hy⟩ := getAt_rep b x.2 (off - a.size) u y c2 h2 hg
        refine ⟨by simp [Ty.size]; omega, ?_⟩
        have : cut (c1 ++ c2) off u.size = cut c2 (off - a.size) u.size := by
          unfold cut
          rw [List.drop_append]
          rw [List.drop_eq_nil_of_le (by omega : c1.length ≤ off), List.nil_append, l1]
        rw [this]; exact hy
  | .wrap a, x, off, u, y, cs, hr, hg => by
    unfold getAt at hg
    split at hg
    · rename_i hc; obtain ⟨rfl, rfl⟩ := hc
      simp at hg; subst hg
      exact ⟨by omega, by rw [cut_full _ _ (rep_len h _ _ _ hr)]; exact hr⟩
    · simp only [rep] at hr
      obtain ⟨hb, hy⟩ := getAt_rep a x off u y cs hr hg
      exact ⟨by simpa [Ty.size] using hb, hy⟩
  | .int k, x, off, u, y, cs, hr, hg | .bool, x, off, u, y, cs, hr, hg | .str, x, off, u, y, cs, hr, hg | .slice t, x, off, u, y, cs, hr, hg | .arr n t, x, off, u, y, cs, hr, hg | .tree, x, off, u, y, cs, hr, hg => by
    unfold getAt at hg
    split at hg
    · rename_i hc; obtain ⟨rfl, rfl⟩ := hc
      simp at hg; subst hg
      exact ⟨by omega, by rw [cut_full _ _ (rep_len h _ _ _ hr)]; exact hr⟩
    · simp at hg
end Go.Sl

/- The operations that touch no memory: what they give, and that the machine gives it. -/
namespace Go.Sl
open Go

def ci (n : Int) : SV := .dat (.int .i64) n

def constSV : Value → Option SV
  | .int k n => some (.dat (.int k) n)
  | .bool b => some (.dat .bool b)
  | .string s => some (.dat .str s)
  | .slice none 0 0 => some .nilS
  | .pointer none => some .nilP
  | .map none => some .nilM
  | .nilFunc => some .any
  | _ => none

def constAV : Value → Option AV
  | .agg cs => (cs.toList.mapM constSV).map .agg
  | v => (constSV v).map .one

def evS (fr : Fr) (gd : Option (Nat × Bool)) : Operand → Option AV
  | .tmp t =>
    match get fr t with
    | some (.mb g b x) => if gd = some (g, b) then some (.one x) else none
    | r => r
  | .const v => constAV v
  | .func f => some (.one (.fn f []))
  | .global _ => none

def AV.sure : AV → Bool
  | .mb _ _ _ => false
  | _ => true

def binInt (op : BinOp) (k : IntKind) (a : Int) (k' : IntKind) (b : Int) : Option (SV × Prop) :=
  match op with
  | .shl => some (.dat (.int k) (k.wrap (a * 2 ^ min b.toNat k.bits)), 0 ≤ b)
  | .shr => some (.dat (.int k) (a.fdiv (2 ^ min b.toNat k.bits)), 0 ≤ b)
  | op =>
    if k = k' then
      match op with
      | .add => some (.dat (.int k) (k.wrap (a + b)), True)
      | .sub => some (.dat (.int k) (k.wrap (a - b)), True)
      | .mul => some (.dat (.int k) (k.wrap (a * b)), True)
      | .quo => some (.dat (.int k) (k.wrap (a.tdiv b)), b ≠ 0)
      | .rem => some (.dat (.int k) (a.tmod b), b ≠ 0)
      | .and => some (.dat (.int k) (k.wrap (BitVec.ofInt k.bits a &&& BitVec.ofInt k.bits b).toNat), True)
      | .or => some (.dat (.int k) (k.wrap (BitVec.ofInt k.bits a ||| BitVec.ofInt k.bits b).toNat), True)
      | .xor => some (.dat (.int k) (k.wrap (BitVec.ofInt k.bits a ^^^ BitVec.ofInt k.bits b).toNat), True)
      | .andNot => some (.dat (.int k) (k.wrap (BitVec.ofInt k.bits a &&& ~~~ BitVec.ofInt k.bits b).toNat), True)
      | .eql => some (.dat .bool (a == b), True)
      | .neq => some (.dat .bool (a != b), True)
      | .lss => some (.dat .bool (decide (a < b)), True)
      | .leq => some (.dat .bool (decide (a ≤ b)), True)
      | .gtr => some (.dat .bool (decide (a > b)), True)
      | .geq => some (.dat .bool (decide (a ≥ b)), True)
      | _ => none
    else none

/-- element i of a list, i an integer of the program -/
def Idx {α : Type} (xs : List α) (i : Int) (x : α) : Prop := 0 ≤ i ∧ xs[i.toNat]? = some x
def InR (i n : Int) : Prop := 0 ≤ i ∧ i < n
def Cuts (lo hi n : Int) : Prop := 0 ≤ lo ∧ lo ≤ hi ∧ hi ≤ n

def iOf : Option AV → Option Int
  | some (.one (.dat (.int _) i)) => some i
  | _ => none

def fieldOf (P : Program) (t : TypeId) (f : Nat) : Option Field :=
  match P.underlying t with
  | some (.struct fs) => fs[f]?
  | _ => none

/-- replace cells from a place on -/
def over {α : Type} (cs : List α) (off : Nat) (news : List α) : List α := cs.take off ++ news ++ cs.drop (off + news.length)

def pBin (P : Program) (op : BinOp) (xt : TypeId) : Option AV → Option AV → Option (AV × Prop)
  | some (.one (.dat (.int k) a)), some (.one (.dat (.int k') b)) => (binInt op k a k' b).map fun p => (.one p.1, p.2)
  | some (.one (.dat .bool a)), some (.one (.dat .bool b)) =>
    match P.underlying xt, op with
    | some .bool, .eql => some (.one (.dat .bool (a == b)), True)
    | some .bool, .neq => some (.one (.dat .bool (!(a == b))), True)
    | _, _ => none
  | _, _ => none

def pUn (op : UnOp) : Option AV → Option (AV × Prop)
  | some (.one (.dat .bool a)) => match op with | .not => some (.one (.dat .bool !a), True) | _ => none
  | some (.one (.dat (.int k) a)) =>
    match op with
    | .neg => some (.one (.dat (.int k) (k.wrap (0 - a))), True)
    | .xor => some (.one (.dat (.int k) (k.wrap (BitVec.ofInt k.bits (if k.signed then -1 else k.max) ^^^ BitVec.ofInt k.bits a).toNat)), True)
    | _ => none
  | _ => none

def pConv (P : Program) (s d : TypeId) : Option AV → Option (AV × Prop)
  | some (.one (.dat (.int _) n)) =>
    match P.underlying s, P.underlying d with
    | some _, some (.int k) => some (.one (.dat (.int k) (k.wrap n)), True)
    | _, _ => none
  | _ => none

def pLen (P : Program) (L : LL) (t : TypeId) : Option AV → Option (AV × Prop)
  | some (.one (.dat (.slice _) xs)) => match P.underlying t with | some (.slice _) => some (.one (ci (List.length xs)), True) | _ => none
  | some (.one (.cdat _ xs)) => match P.underlying t with | some (.slice _) => some (.one (ci (List.length xs)), True) | _ => none
  | some (.one .nilS) => match P.underlying t with | some (.slice _) => some (.one (ci 0), True) | _ => none
  | some (.one (.slc s)) =>
    match P.underlying t, get L s with
    | some (.slice _), some (.seq _ xs) => some (.one (ci (List.length xs)), True)
    | some (.slice _), some (.rows _ _ xs _) => some (.one (ci (List.length xs)), True)
    | _, _ => none
  | some (.one (.dat .str s)) => match P.underlying t with | some .string => some (.one (ci s.size), True) | _ => none
  | _ => none

def pMin : Option AV → Option AV → Option (AV × Prop)
  | some (.one (.dat (.int k) a)), some (.one (.dat (.int _) b)) => some (.one (.dat (.int k) (if b < a then b else a)), True)
  | _, _ => none
def pMax : Option AV → Option AV → Option (AV × Prop)
  | some (.one (.dat (.int k) a)), some (.one (.dat (.int _) b)) => some (.one (.dat (.int k) (if b > a then b else a)), True)
  | _, _ => none

def pBuiltin (P : Program) (L : LL) (ev : Operand → Option AV) (b : Builtin) (args : List Operand) (ts : List TypeId) : Option (AV × Prop) :=
  match b, args, ts with
  | .len, [x], [t] => pLen P L t (ev x)
  | .min, [x, y], _ => pMin (ev x) (ev y)
  | .max, [x, y], _ => pMax (ev x) (ev y)
  | _, _, _ => none

def pExtract (i : Nat) : Option AV → Option (AV × Prop)
  | some (.tup vs) => (vs[i]?).map fun v => (.one v, True)
  | _ => none

def refOf : Option AV → Option (Nat × Nat)
  | some (.one (.ptr s o)) => some (s, o)
  | _ => none

def sizeIs (P : Program) (e : TypeId) (n : Nat) : Bool := (P.info? e).map (·.size) == some n

def sizePos (P : Program) (e : TypeId) : Bool := match P.info? e with | some i => !(i.size == 0) | none => false
def pFieldAddr (P : Program) (t : TypeId) (f : Nat) (x : Option AV) : Option (AV × Prop) :=
  match fieldOf P t f with
  | some fd =>
    match tyAt P fd.type with
    | some u =>
      if u.size = 0 then none else
      match x with
      | some (.one (.ptr s o)) => some (.one (.ptr s (o + fd.offset)), True)
      | some (.one (.eptr s z i o)) => some (.one (.eptr s z i (o + fd.offset)), True)
      | some (.one (.dptr t' d)) => (getAt t' d fd.offset u).map fun y => (.one (.dptr u y), True)
      | _ => none
    | none =>
      match x with
      | some (.one (.ptr s o)) => if sizePos P fd.type then some (.one (.ptr s (o + fd.offset)), True) else none
      | _ => none
  | none => none

def pField (P : Program) (t : TypeId) (f : Nat) (x : Option AV) : Option (AV × Prop) :=
  match fieldOf P t f with
  | some fd =>
    match tyAt P fd.type with
    | some u =>
      match x with
      | some (.one (.dat t' d)) => if t'.isAgg then (getAt t' d fd.offset u).map fun y => (.one (.dat u y), True) else none
      | some (.agg cs) => if u.isAgg then none else (cs[fd.offset]?).map fun v => (.one v, True)
      | _ => none
    | none =>
      match x with
      | some (.agg cs) => if aggOf P fd.type = some false then (cs[fd.offset]?).map fun v => (.one v, True) else none
      | _ => none
  | none => none

def pIndexAddr (P : Program) (L : LL) (orc : Option SV) (t : TypeId) (x : Option AV) (i : Option Int) : Option (AV × Prop) :=
  match P.underlying t, i with
  | some (.slice e), some i =>
    match x with
    | some (.one (.dat (.slice u) xs)) =>
      match orc with
      | some (.dat u' y) => if hu : u' = u then (if sizeIs P e u.size then some (.one (.dptr u (hu ▸ y)), Idx xs i (hu ▸ y)) else none) else none
      | _ => none
    | some (.one (.slc s)) =>
      match get L s with
      | some (.seq u xs) => if sizeIs P e u.size then some (.one (.eptr s u.size i 0), InR i (List.length xs)) else none
      | some (.rows _ _ xs _) => if sizeIs P e 1 then some (.one (.eptr s 1 i 0), InR i (List.length xs)) else none
      | _ => none
    | _ => none
  | some (.array n e), some i =>
    match x with
    | some (.one (.ptr s 0)) =>
      match get L s with
      | some (.one (.arr n' u) _) => if n' = n ∧ 1 < n ∧ sizeIs P e u.size then some (.one (.eptr s u.size i 0), InR i n) else none
      | _ => none
    | some (.one (.dptr (.arr n' u) xs)) =>
      match orc with
      | some (.dat u' y) => if hu : u' = u then (if n' = n ∧ 1 < n ∧ sizeIs P e u.size then some (.one (.dptr u (hu ▸ y)), Idx xs i (hu ▸ y)) else none) else none
      | _ => none
    | _ => none
  | _, _ => none

def pNil (orc : Option SV) : Option AV → Option (AV × Prop)
  | some (.one (.dptr t x)) => some (.one (.dptr t x), True)
  | some (.one (.dat .tree x)) =>
    match orc with
    | some (.dat t p) => if h : t = tyNode then some (.one (.dptr tyNode (castTy h p)), CT.open x = some (castTy h p)) else none
    | _ => none
  | some (.one (.ptr s o)) => some (.one (.ptr s o), True)
  | some (.one (.eptr s z i o)) => some (.one (.eptr s z i o), True)
  | _ => none
/-- a byte of a string -/
def sAt (s : ByteArray) (i : Int) : Int := ((s[i.toNat]?).getD 0).toNat

def pIndex (P : Program) (orc : Option SV) (t : TypeId) (x : Option AV) (i : Option Int) : Option (AV × Prop) :=
  match P.underlying t, i, x, orc with
  | some .string, some i, some (.one (.dat .str s)), _ => some (.one (.dat (.int .u8) (sAt s i)), InR i s.size)
  | some (.array n e), some i, some (.one (.dat (.arr n' u) xs)), some (.dat u' y) =>
    if hu : u' = u then (if n' = n ∧ tyAt P e = some u then some (.one (.dat u (hu ▸ y)), Idx xs i (hu ▸ y)) else none) else none
  | _, _, _, _ => none

def loOf (ev : Operand → Option AV) : Option Operand → Option Int
  | none => some 0
  | some l => iOf (ev l)
def hiOf (ev : Operand → Option AV) (n : Nat) : Option Operand → Option Int
  | none => some n
  | some l => iOf (ev l)

/-- all of an array, as a slice -/
def pSliceA (P : Program) (t : TypeId) (x : Option AV) : Option (AV × Prop) :=
  match P.underlying t, x with
  | some (.array n' e), some (.one (.dptr (.arr n u) xs)) => if n' = n ∧ sizeIs P e u.size ∧ n ≤ maxSl then some (.one (.dat (.slice u) xs), True) else none
  | _, _ => none
def pSlice (P : Program) (ev : Operand → Option AV) (t : TypeId) (x : Operand) (lo hi mx : Option Operand) : Option (AV × Prop) :=
  match P.underlying t, ev x with
  | some (.slice e), some (.one (.dat (.slice u) xs)) =>
    if sizeIs P e u.size then
      match loOf ev lo, hiOf ev (List.length xs) hi with
      | some l, some m =>
        match mx with
        | none => some (.one (.dat (.slice u) ((xs.drop l.toNat).take (m.toNat - l.toNat))), Cuts l m (List.length xs))
        | some q =>
          match hi, iOf (ev q) with
          | some _, some q => some (.one (.cdat u ((xs.drop l.toNat).take (m.toNat - l.toNat))), Cuts l m (List.length xs) ∧ q = m)
          | _, _ => none
      | _, _ => none
    else none
  | _, _ => none

/-- a part of a slice of one's own -/
def pSliceO (P : Program) (L : LL) (ev : Operand → Option AV) (t : TypeId) (x : Operand) (lo hi mx : Option Operand) : Option (AV × Prop) :=
  match P.underlying t, ev x, mx with
  | some (.slice e), some (.one (.slc s)), none =>
    match get L s with
    | some (.seq u xs) =>
      if sizeIs P e u.size then
        match loOf ev lo, hiOf ev (List.length xs) hi with
        | some l, some m => some (.one (.sub s u.size l m), Cuts l m (List.length xs))
        | _, _ => none
      else none
    | some (.rows _ _ xs _) =>
      if sizeIs P e 1 then
        match loOf ev lo, hiOf ev (List.length xs) hi with
        | some l, some m => some (.one (.sub s 1 l m), Cuts l m (List.length xs))
        | _, _ => none
      else none
    | _ => none
  | _, _, _ => none

/-- what an operation gives that reads no cells: the value, and what is owed for it -/
def pstep (P : Program) (L : LL) (ev : Operand → Option AV) (orc : Option SV) (op : Op) : Option (AV × Prop) :=
  match op with
  | .move x | .assign x => (ev x).map fun v => (v, True)
  | .binOp op xt x y _ => pBin P op xt (ev x) (ev y)
  | .unOp op _ x => pUn op (ev x)
  | .convert s d x => pConv P s d (ev x)
  | .call c =>
    match c.callee with
    | .builtin b => pBuiltin P L ev b c.args.toList c.argTypes.toList
    | _ => none
  | .extract x i => pExtract i (ev x)
  | .nilCheck x => pNil orc (ev x)
  | .makeFunc fn first caps =>
    match fn with
    | .func f => if first.size = 0 then (caps.toList.mapM fun c => refOf (ev c)).map fun cs => (.one (.fn f cs), True) else none
    | _ => none
  | .fieldAddr t x f => pFieldAddr P t f (ev x)
  | .field t x f => pField P t f (ev x)
  | .indexAddr t x i => pIndexAddr P L orc t (ev x) (iOf (ev i))
  | .index t x i => pIndex P orc t (ev x) (iOf (ev i))
  | .slice t x none none none => match pSlice P ev t x none none none with | some r => some r | none => pSliceA P t (ev x)
  | .slice t x lo hi mx => match pSlice P ev t x lo hi mx with | some r => some r | none => pSliceO P L ev t x lo hi mx
  | _ => none

theorem constSV_sound {h : Heap} {ρ : Nat → Value} {v : Value} {x : SV} (e : constSV v = some x) : SRel h ρ x v := by
  unfold constSV at e
  split at e <;> simp at e <;> subst e <;> simp [SRel, RepV, Ty.isAgg, rep]

theorem mapM_all2 {α β : Type} {f : β → Option α} {R : α → β → Prop} (hf : ∀ b a, f b = some a → R a b) : ∀ (l : List β) (m : List α), l.mapM f = some m → All2 R m l
  | [], m, e => by simp at e; subst e; exact .nil
  | b :: l, m, e => by
    simp [List.mapM_cons, Option.bind_eq_some_iff] at e
    obtain ⟨a, ha, m', hm, rfl⟩ := e
    exact .cons (hf _ _ ha) (mapM_all2 hf l m' hm)

theorem constAV_sound {h : Heap} {ρ : Nat → Value} {tm : Array Value} {v : Value} {x : AV} (e : constAV v = some x) : VRel h ρ tm x v ∧ x.sure = true := by
  unfold constAV at e
  split at e
  · rename_i cs
    simp at e
    obtain ⟨l, hl, rfl⟩ := e
    exact ⟨⟨cs.toList, by simp, mapM_all2 (fun _ _ => constSV_sound) _ _ hl⟩, rfl⟩
  · simp at e
    obtain ⟨l, hl, rfl⟩ := e
    exact ⟨constSV_sound hl, rfl⟩

def FrOk (h : Heap) (ρ : Nat → Value) (fr : Fr) (n : Nat) (tm : Array Value) : Prop :=
  ∀ t av, get fr t = some av → t < n ∧ VRel h ρ tm av (tm.getD t undef)

theorem evS_sound {h : Heap} {ρ : Nat → Value} {fr : Fr} {n : Nat} {a : Act} {gd : Option (Nat × Bool)} (hf : FrOk h ρ fr n a.tmps)
    (hg : ∀ g b, gd = some (g, b) → a.tmps[g]? = some (.bool b)) {o : Operand} {x : AV} (e : evS fr gd o = some x) :
    VRel h ρ a.tmps x (a.eval o) ∧ x.sure = true := by
  cases o with
  | tmp t =>
    simp only [evS] at e
    split at e
    · rename_i g b y hy
      split at e
      · rename_i hgd
        simp at e; subst e
        have := (hf t _ hy).2
        simp only [VRel] at this
        exact ⟨this (hg _ _ hgd), rfl⟩
      · simp at e
    · rename_i hno
      have := (hf t _ e).2
      refine ⟨this, ?_⟩
      cases x with
      | mb g b y => exact (hno g b y e).elim
      | _ => rfl
  | const v => exact constAV_sound e
  | func f => simp [evS] at e; subst e; exact ⟨⟨[], rfl, .nil⟩, rfl⟩
  | global g => simp [evS] at e
end Go.Sl

/- The machine gives what 'pstep' says. -/
namespace Go.Sl
open Go

/-- an entry of a map -/
def ERel (h : Heap) (k t : Ty) (p : k.den × t.den) (e : MapEntry) : Prop := RepV h k p.1 e.key ∧ RepV h t p.2 e.val
def Stamps (es : Array MapEntry) (clock : Nat) : Prop := (es.toList.map (·.born)).Nodup ∧ ∀ e ∈ es.toList, e.born < clock
theorem erel_mono {h h' : Heap} (hx : Ext h h') {k t : Ty} : ∀ {l : List (k.den × t.den)} {es : List MapEntry}, All2 (ERel h k t) l es → All2 (ERel h' k t) l es
  | _, _, .nil => .nil
  | _, _, .cons e r => .cons ⟨e.1.mono hx, e.2.mono hx⟩ (erel_mono hx r)

def rawRef (o : Obj) (b : Nat) : Value := match o with | .map _ _ => .map (some b) | _ => .pointer (some ⟨b, 0, none⟩)
/-- rows of one's own, down to rows of data: what a head leads to, and the blocks that belong to it -/
def TreeR (h : Heap) (w : World) : Nat → (t : Ty) → t.den → Value → List Nat → Prop
  | 0, .slice u, xs, v, F => (v = .slice none 0 0 ∧ xs = [] ∧ F = []) ∨ ∃ b cap cur e, v = .slice (some ⟨b, 0, none⟩) (List.length xs) cap ∧ F = [b] ∧ w.heap[b]? = some (.cells cur e (0, 0)) ∧
      cur.size = cap * u.size ∧ List.length xs ≤ cap ∧ List.length xs ≤ maxSl ∧ ∀ (i : Nat) (x : u.den), (show List u.den from xs)[i]? = some x → rep h u x (cut cur.toList (i * u.size) u.size)
  | d + 1, .slice u, xs, v, F => (v = .slice none 0 0 ∧ xs = [] ∧ F = []) ∨ ∃ (b cap : Nat) (cur : Array Value) (e : TypeId) (Fs : List (List Nat)), v = .slice (some ⟨b, 0, none⟩) (List.length xs) cap ∧ F = b :: Fs.flatten ∧ Fs.length = List.length xs ∧ w.heap[b]? = some (.cells cur e (0, 0)) ∧
      cur.size = cap ∧ List.length xs ≤ cap ∧ List.length xs ≤ maxSl ∧ ∀ (i : Nat) (x : u.den), (show List u.den from xs)[i]? = some x → ∃ vi Fi, cur[i]? = some vi ∧ Fs[i]? = some Fi ∧ TreeR h w d u x vi Fi
  | _, _, _, _, _ => False
/-- what is said of a cell apart -/
def hole (hs : List (Int × Bool × SV)) (i : Nat) : Option (Bool × SV) := (hs.find? fun e => e.1 == (i : Int)).map (·.2)
/-- is a row taken out? -/
def taken (hs : List (Int × Bool × SV)) (i : Nat) : Bool := hs.any fun e => e.2.1 && e.1 == (i : Int)
/-- a slice of slices of one's own, some of whose rows are taken out, some of whose cells hold something else -/
def RowsR (h : Heap) (ρ : Nat → Value) (w : World) (d : Nat) (t : Ty) (xs : List t.den) (hs : List (Int × Bool × SV)) (hd : Value) (heads : List Value) (F : List Nat) : Prop :=
  (hd = .slice none 0 0 ∧ xs = [] ∧ heads = [] ∧ F = []) ∨ ∃ (b cap : Nat) (cur : Array Value) (e : TypeId) (Fs : List (List Nat)), hd = .slice (some ⟨b, 0, none⟩) (List.length xs) cap ∧ F = b :: Fs.flatten ∧ Fs.length = List.length xs ∧ heads.length = List.length xs ∧ w.heap[b]? = some (.cells cur e (0, 0)) ∧
      cur.size = cap ∧ List.length xs ≤ cap ∧ List.length xs ≤ maxSl ∧
      ∀ i x, xs[i]? = some x → ∃ c vi Fi, cur[i]? = some c ∧ heads[i]? = some vi ∧ Fs[i]? = some Fi ∧
        (match hole hs i with | some sv => SRel h ρ sv.2 c | none => c = vi) ∧ c.oneCell' = true ∧ (if taken hs i then Fi = [] else TreeR h w d t x vi Fi)
/-- an object of the call's own -/
def ORel (own : Nat → Prop) (h : Heap) (ρ : Nat → Value) (w : World) (r : Value) : LObj → Prop
  | .one t x => ∃ b cur e, r = .pointer (some ⟨b, 0, none⟩) ∧ own b ∧ h b = none ∧ w.heap[b]? = some (.cells cur e (0, 0)) ∧ rep h t x cur.toList
  | .cells cs => ∃ b cur e, r = .pointer (some ⟨b, 0, none⟩) ∧ own b ∧ h b = none ∧ w.heap[b]? = some (.cells cur e (0, 0)) ∧ All2 (SRel h ρ) cs cur.toList ∧ (∀ v ∈ cur.toList, v.oneCell' = true)
  | .seq t xs => (r = .slice none 0 0 ∧ xs = []) ∨ ∃ b cap cur e, r = .slice (some ⟨b, 0, none⟩) (List.length xs) cap ∧ own b ∧ h b = none ∧ w.heap[b]? = some (.cells cur e (0, 0)) ∧
      cur.size = cap * t.size ∧ List.length xs ≤ cap ∧ List.length xs ≤ maxSl ∧ ∀ i x, xs[i]? = some x → rep h t x (cut cur.toList (i * t.size) t.size)
  | .map k t m => (r = .map none ∧ m = none) ∨ ∃ b es clock l, m = some l ∧ r = .map (some b) ∧ own b ∧ h b = none ∧ w.heap[b]? = some (.map es clock) ∧ All2 (ERel h k t) l es.toList ∧ Stamps es clock
  | .raw b o => r = rawRef o b ∧ own b ∧ h b = none ∧ w.heap[b]? = some o ∧ ∀ ds, o ≠ .deferred ds
  | .rows d t xs hs => ∃ hd heads F, r = mkR hd heads F ∧ F.Nodup ∧ (∀ b ∈ F, own b ∧ h b = none) ∧ RowsR h ρ w d t xs hs hd heads F
  | .que t xs => (r = .slice none 0 0 ∧ xs = []) ∨ ∃ b off cap cur e, r = .slice (some ⟨b, off, none⟩) (List.length xs) cap ∧ own b ∧ h b = none ∧ w.heap[b]? = some (.cells cur e (0, 0)) ∧
      off + cap * t.size ≤ cur.size ∧ List.length xs ≤ cap ∧ List.length xs ≤ maxSl ∧ ∀ i x, xs[i]? = some x → rep h t x (cut cur.toList (off + i * t.size) t.size)

/-- the head of a slice of one's own -/
theorem seq_hdr {own : Nat → Prop} {h : Heap} {ρ : Nat → Value} {w : World} {r : Value} {t : Ty} {xs : List t.den} (e : ORel own h ρ w r (.seq t xs)) :
    hdrOf r = r ∧ ((r = .slice none 0 0 ∧ xs = []) ∨ ∃ b cap, r = .slice (some ⟨b, 0, none⟩) (List.length xs) cap ∧ List.length xs ≤ cap) := by
  rcases e with ⟨rfl, h0⟩ | ⟨b, cap, cur, el, rfl, _, _, _, _, h5, _⟩
  · exact ⟨rfl, .inl ⟨rfl, h0⟩⟩
  · exact ⟨rfl, .inr ⟨b, cap, rfl, h5⟩⟩
theorem map_hdr {own : Nat → Prop} {h : Heap} {ρ : Nat → Value} {w : World} {r : Value} {k t : Ty} {m : Option (List (k.den × t.den))} (e : ORel own h ρ w r (.map k t m)) : hdrOf r = r := by
  rcases e with ⟨rfl, _⟩ | ⟨b, es, ck, l, _, rfl, _⟩ <;> rfl
theorem rows_hdr {own : Nat → Prop} {h : Heap} {ρ : Nat → Value} {w : World} {r : Value} {d : Nat} {t : Ty} {xs : List t.den} {hs : List (Int × Bool × SV)} (e : ORel own h ρ w r (.rows d t xs hs)) :
    (hdrOf r = .slice none 0 0 ∧ xs = []) ∨ ∃ b cap, hdrOf r = .slice (some ⟨b, 0, none⟩) (List.length xs) cap ∧ List.length xs ≤ cap := by
  obtain ⟨hd, heads, F, rfl, _, _, e⟩ := e
  rw [hdrOf_mkR]
  rcases e with ⟨rfl, h0, _⟩ | ⟨b, cap, cur, el, Fs, rfl, _, _, _, _, _, h5, _⟩
  · exact .inl ⟨rfl, h0⟩
  · exact .inr ⟨b, cap, rfl, h5⟩

theorem repV_int {h : Heap} {k : IntKind} {n : Int} {v : Value} : RepV h (.int k) n v ↔ v = .int k n := by
  simp [RepV, Ty.isAgg, rep]
theorem repV_bool {h : Heap} {b : Bool} {v : Value} : RepV h .bool b v ↔ v = .bool b := by
  simp [RepV, Ty.isAgg, rep]
theorem srel_int {h : Heap} {ρ : Nat → Value} {k : IntKind} {n : Int} : SRel h ρ (.dat (.int k) n) (.int k n) := (repV_int (h := h)).2 rfl
theorem srel_bool {h : Heap} {ρ : Nat → Value} {n : Bool} : SRel h ρ (.dat .bool n) (.bool n) := (repV_bool (h := h)).2 rfl
theorem vrel_int {h : Heap} {ρ : Nat → Value} {tm : Array Value} {k : IntKind} {n : Int} : VRel h ρ tm (.one (.dat (.int k) n)) (.int k n) := (repV_int (h := h)).2 rfl
theorem vrel_bool {h : Heap} {ρ : Nat → Value} {tm : Array Value} {n : Bool} : VRel h ρ tm (.one (.dat .bool n)) (.bool n) := (repV_bool (h := h)).2 rfl

theorem repV_str {h : Heap} {b : ByteArray} {v : Value} : RepV h .str b v ↔ v = .string b := by
  simp [RepV, Ty.isAgg, rep]
theorem repV_slice {h : Heap} {t : Ty} {xs : List t.den} {v : Value} : RepV h (.slice t) xs v ↔ rep h (.slice t) xs [v] := by
  simp [RepV, Ty.isAgg]
theorem sl_form {h : Heap} {t : Ty} {xs : List t.den} {v : Value} (e : rep h (.slice t) xs [v]) : ∃ a cap, v = .slice a (List.length xs) cap ∧ List.length xs ≤ maxSl ∧ List.length xs ≤ cap ∧
      (xs = [] ∨ ∃ b off blk, a = some ⟨b, off, none⟩ ∧ h b = some blk ∧ off + List.length xs * t.size ≤ blk.length ∧
        ∀ i x, xs[i]? = some x → rep h t x (cut blk (off + i * t.size) t.size)) := by
  simp only [rep] at e
  obtain ⟨a, cap, hv, r⟩ := e
  exact ⟨a, cap, by simpa using hv, r⟩

theorem binInt_sound {P : Program} {h : Heap} {ρ : Nat → Value} {w : World} {op : BinOp} {k k' : IntKind} {a b : Int} {p : SV × Prop} (e : binInt op k a k' b = some p) (hp : p.2) (xt : TypeId) :
    ∃ v, (binOp op xt (.int k a) (.int k' b)).run P w = .ok v w ∧ SRel h ρ p.1 v := by
  unfold binInt at e
  split at e
  · obtain rfl := Option.some.inj e
    have : ¬ b < 0 := by have : 0 ≤ b := hp; omega
    exact ⟨_, by simp only [binOp, Op.shift, this, if_false]; rfl, srel_int⟩
  · obtain rfl := Option.some.inj e
    have : ¬ b < 0 := by have : 0 ≤ b := hp; omega
    exact ⟨_, by simp only [binOp, Op.shift, this, if_false]; rfl, srel_int⟩
  · rename_i h1 h2
    split at e
    · rename_i hk
      subst hk
      split at e
      case h_16 => simp at e
      all_goals
        obtain rfl := Option.some.inj e
        first
        | refine ⟨_, ?_, srel_int⟩
        | refine ⟨_, ?_, srel_bool⟩
        first
        | (have hb : b ≠ 0 := hp; simp only [binOp, Op.intDiv, hb, ne_eq, not_true_eq_false, if_false]; rfl)
        | (simp only [binOp, Op.intArith, Op.intBits, Op.intCmp, ne_eq, not_true_eq_false, if_false]; rfl)
    · simp at e

theorem run_underlying' {P : Program} {t : TypeId} {d : TypeDesc} (h : P.underlying t = some d) (w : World) : (underlying t).run P w = .ok d w := by
  simp [underlying, h]
theorem run_sizeOf' {P : Program} {t : TypeId} {n : Nat} (h : (P.info? t).map (·.size) = some n) (w : World) : (sizeOf t).run P w = .ok n w := by
  cases hi : P.info? t with
  | none => simp [hi] at h
  | some i => simp [hi] at h; simp [sizeOf, typeInfo, hi, h]
theorem run_isAgg' {P : Program} {t : TypeId} {b : Bool} (h : aggOf P t = some b) (w : World) : (isAgg t).run P w = .ok b w := by
  unfold aggOf at h
  cases hu : P.underlying t with
  | none => simp [hu] at h
  | some d =>
    simp [hu] at h
    unfold isAgg
    rw [Sem.run_bind, run_underlying' hu]
    cases d <;> simp_all

theorem eqGuard_int {P : Program} {w : World} (op : BinOp) (t : TypeId) (x y : Operand) (k k' : IntKind) (a b : Int) :
    (eqGuard op t x y (.int k a) (.int k' b)).run P w = .ok () w := by
  unfold eqGuard
  cases op <;> simp
theorem eqGuard_bool {P : Program} {w : World} (op : BinOp) (t : TypeId) (x y : Operand) (a b : Bool) :
    (eqGuard op t x y (.bool a) (.bool b)).run P w = .ok () w := by
  unfold eqGuard
  cases op <;> simp

theorem fieldOf_spec {P : Program} {t : TypeId} {f : Nat} {fd : Field} (h : fieldOf P t f = some fd) : ∃ fs, P.underlying t = some (.struct fs) ∧ fs[f]? = some fd := by
  unfold fieldOf at h
  split at h
  · rename_i fs hu; exact ⟨fs, hu, h⟩
  · simp at h

theorem addr_add (b o n : Nat) : (⟨b, o, none⟩ : Addr).add n = ⟨b, o + n, none⟩ := by
  unfold Addr.add
  split
  · rename_i h; subst h; rfl
  · rfl

theorem mapM_opt {α β : Type} {f : β → Option α} {R : α → β → Prop} (hf : ∀ b a, f b = some a → R a b) : ∀ (l : List β) (m : List α), l.mapM f = some m → All2 R m l := fun l m e => mapM_all2 hf l m e

theorem all2_map_right {α β γ : Type} {R : α → γ → Prop} {g : β → γ} : ∀ {l : List α} {m : List β}, All2 (fun a b => R a (g b)) l m → All2 R l (m.map g)
  | _, _, .nil => .nil
  | _, _, .cons h t => .cons h (all2_map_right t)

section
variable {P : Program} {own : Nat → Prop} {h : Heap} {ρ : Nat → Value} {L : LL} {w : World} {tm : Array Value}

/-- 'y' stands for the value 'v' surely -/
def Good (h : Heap) (ρ : Nat → Value) (tm : Array Value) (y : Option AV) (v : Value) : Prop := ∀ z, y = some z → VRel h ρ tm z v ∧ z.sure = true

theorem Good.int {k : IntKind} {n : Int} {v : Value} (g : Good h ρ tm (some (.one (.dat (.int k) n))) v) : v = .int k n := (repV_int (h := h)).1 (g _ rfl).1
theorem Good.bool {n : Bool} {v : Value} (g : Good h ρ tm (some (.one (.dat .bool n))) v) : v = .bool n := (repV_bool (h := h)).1 (g _ rfl).1

theorem Good.iOf {y : Option AV} {v : Value} {i : Int} (g : Good h ρ tm y v) (e : iOf y = some i) : ∃ k, v = .int k i := by
  unfold Sl.iOf at e
  split at e
  · rename_i k j; simp at e; subst e; exact ⟨k, g.int⟩
  · simp at e

theorem Good.refOf {y : Option AV} {v : Value} {p : Nat × Nat} (g : Good h ρ tm y v) (e : refOf y = some p) : Refs ρ p v := by
  unfold Sl.refOf at e
  split at e
  · simp at e; subst e; exact (g _ rfl).1
  · simp at e

/-- what the machine gives, and that it is what was said -/
def Gives (P : Program) (h : Heap) (ρ : Nat → Value) (tm : Array Value) (w : World) (s : Sem Value) (av : AV) : Prop :=
  ∃ v, s.run P w = .ok v w ∧ VRel h ρ tm av v ∧ av.sure = true

theorem run_equal_bool {t : TypeId} (hu : P.underlying t = some .bool) (a b : Bool) : (Op.equal t (.bool a) (.bool b)).run P w = .ok (a == b) w := by
  show (Op.equalIn (9999 + 1) t (.bool a) (.bool b)).run P w = _
  rw [Op.equalIn]
  simp [run_underlying' hu]
theorem run_eql_bool {t : TypeId} (hu : P.underlying t = some .bool) (a b : Bool) : (binOp .eql t (.bool a) (.bool b)).run P w = .ok (.bool (a == b)) w := by
  show (do pure (Value.bool (← Op.equal t (.bool a) (.bool b))) : Sem Value).run P w = _
  rw [Sem.run_bind, run_equal_bool hu]; rfl
theorem run_neq_bool {t : TypeId} (hu : P.underlying t = some .bool) (a b : Bool) : (binOp .neq t (.bool a) (.bool b)).run P w = .ok (.bool (!(a == b))) w := by
  show (do pure (Value.bool (!(← Op.equal t (.bool a) (.bool b)))) : Sem Value).run P w = _
  rw [Sem.run_bind, run_equal_bool hu]; rfl

theorem pBin_sound {op : BinOp} {xt : TypeId} {x y : Option AV} {u v : Value} {av : AV} {ob : Prop} (hx : Good h ρ tm x u) (hy : Good h ρ tm y v) (hs : pBin P op xt x y = some (av, ob)) (ho : ob) :
    (∀ a b, (eqGuard op xt a b u v).run P w = .ok () w) ∧ Gives P h ρ tm w (binOp op xt u v) av := by
  unfold pBin at hs
  split at hs
  · rename_i k a k' b
    obtain rfl := hx.int
    obtain rfl := hy.int
    obtain ⟨p, hp, he⟩ := Option.map_eq_some_iff.1 hs
    simp only [Prod.mk.injEq] at he
    obtain ⟨rfl, rfl⟩ := he
    obtain ⟨r, hr, hv⟩ := binInt_sound (P := P) (h := h) (ρ := ρ) (w := w) hp ho xt
    exact ⟨fun _ _ => eqGuard_int _ _ _ _ _ _ _ _, r, hr, hv, rfl⟩
  · rename_i a b
    obtain rfl := hx.bool
    obtain rfl := hy.bool
    refine ⟨fun _ _ => eqGuard_bool _ _ _ _ _ _, ?_⟩
    split at hs
    · rename_i hu
      simp only [Option.some.injEq, Prod.mk.injEq] at hs; obtain ⟨rfl, rfl⟩ := hs
      exact ⟨.bool (a == b), run_eql_bool hu a b, vrel_bool, rfl⟩
    · rename_i hu
      simp only [Option.some.injEq, Prod.mk.injEq] at hs; obtain ⟨rfl, rfl⟩ := hs
      exact ⟨.bool (!(a == b)), run_neq_bool hu a b, vrel_bool, rfl⟩
    · simp at hs
  · simp at hs

theorem pUn_sound {op : UnOp} {x : Option AV} {u : Value} {av : AV} {ob : Prop} (hx : Good h ρ tm x u) (hs : pUn op x = some (av, ob)) : Gives P h ρ tm w (Op.unary op u) av := by
  unfold pUn at hs
  split at hs
  · obtain rfl := hx.bool
    split at hs
    · simp only [Option.some.injEq, Prod.mk.injEq] at hs; obtain ⟨rfl, rfl⟩ := hs
      exact ⟨_, rfl, vrel_bool, rfl⟩
    · simp at hs
  · obtain rfl := hx.int
    split at hs
    · simp only [Option.some.injEq, Prod.mk.injEq] at hs; obtain ⟨rfl, rfl⟩ := hs
      exact ⟨_, rfl, vrel_int, rfl⟩
    · simp only [Option.some.injEq, Prod.mk.injEq] at hs; obtain ⟨rfl, rfl⟩ := hs
      exact ⟨_, rfl, vrel_int, rfl⟩
    · simp at hs
  · simp at hs

theorem pConv_sound {s d : TypeId} {x : Option AV} {u : Value} {av : AV} {ob : Prop} (hx : Good h ρ tm x u) (hs : pConv P s d x = some (av, ob)) : Gives P h ρ tm w (convert s d u) av := by
  unfold pConv at hs
  split at hs
  · obtain rfl := hx.int
    split at hs
    · rename_i ds k hus hud
      simp only [Option.some.injEq, Prod.mk.injEq] at hs; obtain ⟨rfl, rfl⟩ := hs
      refine ⟨_, ?_, vrel_int, rfl⟩
      simp [convert, run_underlying' hus, run_underlying' hud, Conv.intToInt]
    · simp at hs
  · simp at hs

theorem pLen_sound {t ty : TypeId} {x : Option AV} {u : Value} {av : AV} {ob : Prop} (hx : Good h ρ tm x u)
    (hobj : ∀ s x, get L s = some x → ORel own h ρ w (ρ s) x) (hs : pLen P L t x = some (av, ob)) : Gives P h ρ tm w (Builtin.len_ #[t] ty #[u]) av := by
  unfold pLen at hs
  split at hs
  · split at hs
    · rename_i u' xs el hu
      obtain ⟨a, cap, rfl, _⟩ := sl_form (repV_slice.1 (hx _ rfl).1)
      simp only [Option.some.injEq, Prod.mk.injEq] at hs; obtain ⟨rfl, rfl⟩ := hs
      exact ⟨_, by simp [Builtin.len_, run_underlying' hu]; rfl, vrel_int, rfl⟩
    · simp at hs
  · split at hs
    · rename_i u' xs el hu
      obtain ⟨a, rfl, _⟩ := (hx _ rfl).1
      simp only [Option.some.injEq, Prod.mk.injEq] at hs; obtain ⟨rfl, rfl⟩ := hs
      exact ⟨_, by simp [Builtin.len_, run_underlying' hu]; rfl, vrel_int, rfl⟩
    · simp at hs
  · split at hs
    · rename_i el hu
      obtain rfl : u = .slice none 0 0 := (hx _ rfl).1
      simp only [Option.some.injEq, Prod.mk.injEq] at hs; obtain ⟨rfl, rfl⟩ := hs
      exact ⟨_, by simp [Builtin.len_, run_underlying' hu]; rfl, vrel_int, rfl⟩
    · simp at hs
  · split at hs
    · rename_i s _ _ el u' xs hu hL
      obtain rfl : u = hdrOf (ρ s) := (hx _ rfl).1.1
      simp only [Option.some.injEq, Prod.mk.injEq] at hs; obtain ⟨rfl, rfl⟩ := hs
      refine ⟨goInt (List.length xs), ?_, vrel_int, rfl⟩
      obtain ⟨e0, ⟨hr, hx0⟩ | ⟨b, cap, hr, _⟩⟩ := seq_hdr (hobj _ _ hL) <;> rw [e0]
      · simp [Builtin.len_, run_underlying' hu, hr, hx0]
      · simp [Builtin.len_, run_underlying' hu, hr]
    · rename_i s _ _ el _ _ xs _ hu hL
      obtain rfl : u = hdrOf (ρ s) := (hx _ rfl).1.1
      simp only [Option.some.injEq, Prod.mk.injEq] at hs; obtain ⟨rfl, rfl⟩ := hs
      refine ⟨goInt (List.length xs), ?_, vrel_int, rfl⟩
      rcases rows_hdr (hobj _ _ hL) with ⟨hr, hx0⟩ | ⟨b, cap, hr, _⟩
      · simp [Builtin.len_, run_underlying' hu, hr, hx0]
      · simp [Builtin.len_, run_underlying' hu, hr]
    · simp at hs
  · split at hs
    · rename_i s _ hu
      obtain rfl : u = .string s := (repV_str (h := h)).1 (hx _ rfl).1
      simp only [Option.some.injEq, Prod.mk.injEq] at hs; obtain ⟨rfl, rfl⟩ := hs
      exact ⟨_, by simp [Builtin.len_, run_underlying' hu]; rfl, vrel_int, rfl⟩
    · simp at hs
  · simp at hs

theorem pMin_sound {x y : Option AV} {ts : Array TypeId} {ty : TypeId} {u v : Value} {av : AV} {ob : Prop} (hx : Good h ρ tm x u) (hy : Good h ρ tm y v) (hs : pMin x y = some (av, ob)) :
    Gives P h ρ tm w (Builtin.min_ ts ty #[u, v]) av := by
  unfold pMin at hs
  split at hs
  · obtain rfl := hx.int
    obtain rfl := hy.int
    simp only [Option.some.injEq, Prod.mk.injEq] at hs; obtain ⟨rfl, rfl⟩ := hs
    exact ⟨_, rfl, vrel_int, rfl⟩
  · simp at hs
theorem pMax_sound {x y : Option AV} {ts : Array TypeId} {ty : TypeId} {u v : Value} {av : AV} {ob : Prop} (hx : Good h ρ tm x u) (hy : Good h ρ tm y v) (hs : pMax x y = some (av, ob)) :
    Gives P h ρ tm w (Builtin.max_ ts ty #[u, v]) av := by
  unfold pMax at hs
  split at hs
  · obtain rfl := hx.int
    obtain rfl := hy.int
    simp only [Option.some.injEq, Prod.mk.injEq] at hs; obtain ⟨rfl, rfl⟩ := hs
    exact ⟨_, rfl, vrel_int, rfl⟩
  · simp at hs

theorem pExtract_sound {i : Nat} {x : Option AV} {u : Value} {av : AV} {ob : Prop} (hx : Good h ρ tm x u) (hs : pExtract i x = some (av, ob)) : Gives P h ρ tm w (Instr.extract u i) av := by
  unfold pExtract at hs
  split at hs
  · obtain ⟨us, rfl, h2⟩ := (hx _ rfl).1
    obtain ⟨y, hy, he⟩ := Option.map_eq_some_iff.1 hs
    simp only [Prod.mk.injEq] at he
    obtain ⟨rfl, rfl⟩ := he
    obtain ⟨q, hq, hr⟩ := forall2_get h2 i y hy
    exact ⟨q, by simp [Instr.extract, hq], hr, rfl⟩
  · simp at hs

theorem pFieldAddr_sound {t : TypeId} {f : Nat} {x : Option AV} {u : Value} {av : AV} {ob : Prop} (hx : Good h ρ tm x u) (hs : pFieldAddr P t f x = some (av, ob)) : Gives P h ρ tm w (Instr.fieldAt t u f) av := by
  unfold pFieldAddr at hs
  split at hs
  · rename_i fd hfd
    obtain ⟨fs, hu, hf⟩ := fieldOf_spec hfd
    split at hs
    · rename_i uu htu
      obtain ⟨hsz, _⟩ := tyAt_spec htu
      split at hs
      · simp at hs
      · rename_i hz
        split at hs
        · rename_i s q
          obtain ⟨b, hr, rfl⟩ := (hx _ rfl).1
          simp only [Option.some.injEq, Prod.mk.injEq] at hs; obtain ⟨rfl, rfl⟩ := hs
          exact ⟨.pointer (some ⟨b, q + fd.offset, none⟩), by simp [Instr.fieldAt, run_underlying' hu, hf, Instr.sureAddr, fieldPlace, run_sizeOf' hsz, hz, addr_add], ⟨b, hr, rfl⟩, rfl⟩
        · rename_i s z i q
          obtain ⟨b, hr, hi, rfl⟩ := (hx _ rfl).1
          simp only [Option.some.injEq, Prod.mk.injEq] at hs; obtain ⟨rfl, rfl⟩ := hs
          exact ⟨.pointer (some ⟨b, i.toNat * z + (q + fd.offset), none⟩), by simp [Instr.fieldAt, run_underlying' hu, hf, Instr.sureAddr, fieldPlace, run_sizeOf' hsz, hz, addr_add, Nat.add_assoc], ⟨b, hr, hi, rfl⟩, rfl⟩
        · rename_i t' d
          obtain ⟨b, off, blk, hb, hl, hr, rfl⟩ := (hx _ rfl).1
          obtain ⟨y, hy, he⟩ := Option.map_eq_some_iff.1 hs
          simp only [Prod.mk.injEq] at he
          obtain ⟨rfl, rfl⟩ := he
          obtain ⟨hle, hry⟩ := getAt_rep _ _ _ _ _ _ hr hy
          rw [cut_cut _ _ _ _ _ hle] at hry
          exact ⟨.pointer (some ⟨b, off + fd.offset, none⟩), by simp [Instr.fieldAt, run_underlying' hu, hf, Instr.sureAddr, fieldPlace, run_sizeOf' hsz, hz, addr_add], ⟨b, off + fd.offset, blk, hb, by omega, hry, rfl⟩, rfl⟩
        · simp at hs
    · split at hs
      · rename_i s q
        split at hs
        · rename_i hsz
          obtain ⟨n, hn, hsz⟩ : ∃ n, n ≠ 0 ∧ (P.info? fd.type).map (·.size) = some n := by
            unfold sizePos at hsz
            split at hsz
            · rename_i i hi
              exact ⟨i.size, by simpa using hsz, by rw [hi]; rfl⟩
            · cases hsz
          obtain ⟨b, hr, rfl⟩ := (hx _ rfl).1
          simp only [Option.some.injEq, Prod.mk.injEq] at hs; obtain ⟨rfl, rfl⟩ := hs
          exact ⟨.pointer (some ⟨b, q + fd.offset, none⟩), by simp [Instr.fieldAt, run_underlying' hu, hf, Instr.sureAddr, fieldPlace, run_sizeOf' hsz, hn, addr_add], ⟨b, hr, rfl⟩, rfl⟩
        · simp at hs
      · simp at hs
  · simp at hs

theorem part_rep {t : TypeId} {u : Ty} (ht : tyAt P t = some u) {cs : Array Value} {off : Nat} {y : u.den} (hr : rep h u y (cut cs.toList off u.size)) :
    ∃ v, (part t cs off).run P w = .ok v w ∧ RepV h u y v := by
  obtain ⟨hsz, hag⟩ := tyAt_spec ht
  cases hua : u.isAgg with
  | true =>
    rw [hua] at hag
    refine ⟨.agg (cs.extract off (off + u.size)), by simp [part, run_isAgg' hag, run_sizeOf' hsz], ?_⟩
    simp only [RepV, hua, if_true]
    refine ⟨_, rfl, ?_⟩
    have : (cs.extract off (off + u.size)).toList = cut cs.toList off u.size := by simp [cut]
    rw [this]; exact hr
  | false =>
    rw [hua] at hag
    obtain ⟨v, hcv, hrv⟩ := (RepV.of_cells hr).2 hua
    have hget : cs[off]? = some v := by
      have : (cut cs.toList off u.size)[0]? = some v := by rw [hcv]; rfl
      unfold cut at this
      rw [List.getElem?_take] at this
      split at this
      · simpa using this
      · simp at this
    exact ⟨v, by simp [part, run_isAgg' hag, hget], hrv⟩

theorem pField_sound {t : TypeId} {f : Nat} {x : Option AV} {u : Value} {av : AV} {ob : Prop} (hx : Good h ρ tm x u) (hs : pField P t f x = some (av, ob)) : Gives P h ρ tm w (Instr.field t u f) av := by
  unfold pField at hs
  split at hs
  · rename_i fd hfd
    obtain ⟨fs, hu, hf⟩ := fieldOf_spec hfd
    split at hs
    · rename_i uu htu
      split at hs
      · rename_i t' d
        split at hs
        · rename_i hagg
          have h1 := (hx _ rfl).1
          simp only [VRel, SRel, RepV, hagg, if_true] at h1
          obtain ⟨cs, rfl, hr⟩ := h1
          obtain ⟨y, hy, he⟩ := Option.map_eq_some_iff.1 hs
          simp only [Prod.mk.injEq] at he
          obtain ⟨rfl, rfl⟩ := he
          obtain ⟨hle, hry⟩ := getAt_rep _ _ _ _ _ _ hr hy
          obtain ⟨v, hv, hrv⟩ := part_rep (P := P) (w := w) htu hry
          exact ⟨v, by simp [Instr.field, run_underlying' hu, hf, asAgg, hv], hrv, rfl⟩
        · simp at hs
      · rename_i cs
        obtain ⟨hsz, hag⟩ := tyAt_spec htu
        split at hs
        · simp at hs
        · rename_i hua
          simp at hua
          obtain ⟨vs, rfl, h2⟩ := (hx _ rfl).1
          obtain ⟨y, hy, he⟩ := Option.map_eq_some_iff.1 hs
          simp only [Prod.mk.injEq] at he
          obtain ⟨rfl, rfl⟩ := he
          obtain ⟨q, hq, hr⟩ := forall2_get h2 _ _ hy
          rw [hua] at hag
          exact ⟨q, by simp [Instr.field, run_underlying' hu, hf, asAgg, part, run_isAgg' hag, hq], hr, rfl⟩
      · simp at hs
    · split at hs
      · rename_i cs
        split at hs
        · rename_i hag
          obtain ⟨vs, rfl, h2⟩ := (hx _ rfl).1
          obtain ⟨y, hy, he⟩ := Option.map_eq_some_iff.1 hs
          simp only [Prod.mk.injEq] at he
          obtain ⟨rfl, rfl⟩ := he
          obtain ⟨q, hq, hr⟩ := forall2_get h2 _ _ hy
          exact ⟨q, by simp [Instr.field, run_underlying' hu, hf, asAgg, part, run_isAgg' hag, hq], hr, rfl⟩
        · simp at hs
      · simp at hs
  · simp at hs

theorem sizeIs_spec {e : TypeId} {n : Nat} (h : sizeIs P e n = true) : (P.info? e).map (·.size) = some n := by simpa [sizeIs] using h

theorem pIndexAddr_sound {orc : Option SV} {t : TypeId} {x yi : Option AV} {i : Option Int} {u v : Value} {av : AV} {ob : Prop} (hx : Good h ρ tm x u) (hy : Good h ρ tm yi v) (hi : iOf yi = i)
    (hobj : ∀ s x, get L s = some x → ORel own h ρ w (ρ s) x) (hs : pIndexAddr P L orc t x i = some (av, ob)) (ho : ob) : Gives P h ρ tm w (Instr.indexAt t u v) av := by
  unfold pIndexAddr at hs
  split at hs
  · rename_i e i hu
    obtain ⟨k, rfl⟩ := hy.iOf hi
    split at hs
    · rename_i uu xs
      split at hs
      · rename_i u' y
        split at hs
        · rename_i hue
          subst hue
          split at hs
          · rename_i hsz
            have hsz := sizeIs_spec hsz
            simp only [Option.some.injEq, Prod.mk.injEq] at hs; obtain ⟨rfl, rfl⟩ := hs
            obtain ⟨hi0, hix⟩ := ho
            obtain ⟨a, cap, rfl, hm, hc, hr⟩ := sl_form (repV_slice.1 (hx _ rfl).1)
            rcases hr with rfl | ⟨b, off, blk, rfl, hb, hl, hall⟩
            · simp at hix
            · have hlt := (List.getElem?_eq_some_iff.1 hix).1
              have hi2 : i < (List.length xs : Int) := by omega
              refine ⟨.pointer (some ⟨b, off + i.toNat * u'.size, none⟩), ?_, ⟨b, _, blk, hb, ?_, hall _ _ hix, rfl⟩, rfl⟩
              · simp only [Instr.indexAt, asIntOf, Sem.run_bind, Sem.run_pure, Result.andThen_ok, run_underlying' hu]
                simp [hi0, hi2, run_sizeOf' hsz, addr_add]
              · have : (i.toNat + 1) * u'.size ≤ List.length xs * u'.size := Nat.mul_le_mul_right _ hlt
                rw [Nat.add_mul] at this
                omega
          · simp at hs
        · simp at hs
      · simp at hs
    · rename_i s
      split at hs
      · rename_i uu xs hL
        split at hs
        · rename_i hsz
          have hsz := sizeIs_spec hsz
          simp only [Option.some.injEq, Prod.mk.injEq] at hs; obtain ⟨rfl, rfl⟩ := hs
          obtain ⟨hi0, hi1⟩ := ho
          obtain rfl : u = hdrOf (ρ s) := (hx _ rfl).1.1
          obtain ⟨e0, ⟨hr, hx0⟩ | ⟨b, cap, hr, _⟩⟩ := seq_hdr (hobj _ _ hL)
          · subst hx0; simp at hi1; omega
          · refine ⟨.pointer (some ⟨b, i.toNat * uu.size, none⟩), ?_, ⟨b, .inr ⟨_, _, e0.trans hr⟩, hi0, rfl⟩, rfl⟩
            simp only [Instr.indexAt, asIntOf, Sem.run_bind, Sem.run_pure, Result.andThen_ok, run_underlying' hu, e0.trans hr]
            simp [hi0, hi1, run_sizeOf' hsz, addr_add]
        · simp at hs
      · rename_i d uu xs _ hL
        split at hs
        · rename_i hsz
          have hsz := sizeIs_spec hsz
          simp only [Option.some.injEq, Prod.mk.injEq] at hs; obtain ⟨rfl, rfl⟩ := hs
          obtain ⟨hi0, hi1⟩ := ho
          obtain rfl : u = hdrOf (ρ s) := (hx _ rfl).1.1
          rcases rows_hdr (hobj _ _ hL) with ⟨hr, hx0⟩ | ⟨b, cap, hr, _⟩
          · subst hx0; simp at hi1; omega
          · refine ⟨.pointer (some ⟨b, i.toNat * 1, none⟩), ?_, ⟨b, .inr ⟨_, _, hr⟩, hi0, rfl⟩, rfl⟩
            simp only [Instr.indexAt, asIntOf, Sem.run_bind, Sem.run_pure, Result.andThen_ok, run_underlying' hu, hr]
            simp [hi0, hi1, run_sizeOf' hsz, addr_add]
        · simp at hs
      · simp at hs
    · simp at hs
  · rename_i n e i hu
    obtain ⟨k, rfl⟩ := hy.iOf hi
    split at hs
    · rename_i s
      split at hs
      · rename_i n' uu y hL
        split at hs
        · rename_i hc
          obtain ⟨rfl, hn1, hsz⟩ := hc
          have hsz := sizeIs_spec hsz
          simp only [Option.some.injEq, Prod.mk.injEq] at hs; obtain ⟨rfl, rfl⟩ := hs
          obtain ⟨hi0, hi1⟩ := ho
          obtain ⟨b, hr, rfl⟩ := (hx _ rfl).1
          refine ⟨.pointer (some ⟨b, i.toNat * uu.size, none⟩), ?_, ⟨b, .inl hr, hi0, rfl⟩, rfl⟩
          simp only [Instr.indexAt, asIntOf, Sem.run_bind, Sem.run_pure, Result.andThen_ok, run_underlying' hu, Instr.sureAddr]
          simp [hi0, hi1, run_sizeOf' hsz, addr_add]
        · simp at hs
      · simp at hs
    · rename_i n' uu xs
      split at hs
      · rename_i u' y
        split at hs
        · rename_i hue
          subst hue
          split at hs
          · rename_i hc
            obtain ⟨rfl, hn1, hsz⟩ := hc
            have hsz := sizeIs_spec hsz
            simp only [Option.some.injEq, Prod.mk.injEq] at hs; obtain ⟨rfl, rfl⟩ := hs
            obtain ⟨hi0, hix⟩ := ho
            obtain ⟨b, off, blk, hb, hl, hrep, rfl⟩ := (hx _ rfl).1
            simp only [rep] at hrep
            obtain ⟨hlen, hcl, hall⟩ := hrep
            have hlt := (List.getElem?_eq_some_iff.1 hix).1
            have hi1 : i < (n' : Int) := by omega
            have hb1 : (i.toNat + 1) * u'.size ≤ n' * u'.size := Nat.mul_le_mul_right _ (by omega)
            rw [Nat.add_mul, Nat.one_mul] at hb1
            simp only [Ty.size] at hl hcl hall
            refine ⟨.pointer (some ⟨b, off + i.toNat * u'.size, none⟩), ?_, ⟨b, _, blk, hb, by omega, ?_, rfl⟩, rfl⟩
            · simp only [Instr.indexAt, asIntOf, Sem.run_bind, Sem.run_pure, Result.andThen_ok, run_underlying' hu, Instr.sureAddr]
              simp [hi0, hi1, run_sizeOf' hsz, addr_add]
            · have := hall _ _ hix
              rw [cut_cut _ _ _ _ _ hb1] at this
              exact this
          · simp at hs
        · simp at hs
      · simp at hs
    · simp at hs
  · simp at hs

theorem pIndex_sound {orc : Option SV} {t : TypeId} {x yi : Option AV} {i : Option Int} {u v : Value} {av : AV} {ob : Prop} (hx : Good h ρ tm x u) (hy : Good h ρ tm yi v) (hi : iOf yi = i)
    (hs : pIndex P orc t x i = some (av, ob)) (ho : ob) : Gives P h ρ tm w (Instr.index t u v) av := by
  unfold pIndex at hs
  split at hs
  · rename_i i s hu
    obtain ⟨k, rfl⟩ := hy.iOf hi
    simp only [Option.some.injEq, Prod.mk.injEq] at hs; obtain ⟨rfl, rfl⟩ := hs
    obtain ⟨hi0, hi1⟩ := ho
    obtain rfl := (repV_str (h := h)).1 (hx _ rfl).1
    have hlt : i.toNat < s.size := by omega
    have hget : s[i.toNat]? = some s[i.toNat] := getElem?_pos s i.toNat hlt
    refine ⟨.int .u8 (sAt s i), ?_, vrel_int, rfl⟩
    simp only [Instr.index, asIntOf, Sem.run_bind, Sem.run_pure, Result.andThen_ok, run_underlying' hu, hi0, if_true, hget, sAt, Option.getD_some]
  · rename_i n e i n' uu xs u' y hu
    obtain ⟨k, rfl⟩ := hy.iOf hi
    split at hs
    · rename_i hue
      subst hue
      split at hs
      · rename_i hc
        obtain ⟨rfl, hte⟩ := hc
        obtain ⟨hsz, _⟩ := tyAt_spec hte
        simp only [Option.some.injEq, Prod.mk.injEq] at hs; obtain ⟨rfl, rfl⟩ := hs
        obtain ⟨hi0, hix⟩ := ho
        have h1 := (hx _ rfl).1
        simp only [VRel, SRel, RepV, Ty.isAgg, if_true] at h1
        obtain ⟨cs, rfl, hr⟩ := h1
        simp only [rep] at hr
        obtain ⟨hn, hl, hall⟩ := hr
        have hlt := (List.getElem?_eq_some_iff.1 hix).1
        have hi2 : i < (n' : Int) := by omega
        obtain ⟨q, hq, hrq⟩ := part_rep (P := P) (w := w) hte (hall _ _ hix)
        refine ⟨q, ?_, hrq, rfl⟩
        simp only [Instr.index, asIntOf, Sem.run_bind, Sem.run_pure, Result.andThen_ok, run_underlying' hu]
        simp [hi0, hi2, run_sizeOf' hsz, hq]
      · simp at hs
    · simp at hs
  · simp at hs

theorem loOf_spec {ev : Operand → Option AV} {e : Operand → Value} (hev : ∀ x y, ev x = some y → VRel h ρ tm y (e x) ∧ y.sure = true) {lo : Option Operand} {l : Int} (hl : loOf ev lo = some l) :
    (lo = none ∧ l = 0) ∨ ∃ k, lo.map e = some (.int k l) := by
  cases lo with
  | none => simp [loOf] at hl; exact .inl ⟨rfl, hl.symm⟩
  | some x =>
    obtain ⟨k, hk⟩ := Good.iOf (fun z hz => hev x z hz) hl
    exact .inr ⟨k, by simp [hk]⟩
theorem hiOf_spec {ev : Operand → Option AV} {e : Operand → Value} (hev : ∀ x y, ev x = some y → VRel h ρ tm y (e x) ∧ y.sure = true) {n : Nat} {lo : Option Operand} {l : Int} (hl : hiOf ev n lo = some l) :
    (lo = none ∧ l = n) ∨ ∃ k, lo.map e = some (.int k l) := by
  cases lo with
  | none => simp [hiOf] at hl; exact .inl ⟨rfl, hl.symm⟩
  | some x =>
    obtain ⟨k, hk⟩ := Good.iOf (fun z hz => hev x z hz) hl
    exact .inr ⟨k, by simp [hk]⟩

theorem run_sliceBound (x : Value) (k : IntKind) (i : Int) (hx : x = .int k i) (y : Nat) (c : BoundsCode) (h0 : 0 ≤ i) (h1 : i ≤ y) : (Instr.sliceBound x y c).run P w = .ok i.toNat w := by
  subst hx
  simp [Instr.sliceBound, asIntOf, h0, h1]

theorem run_sliceBounds2 (len cap : Nat) (lo hi : Option Value) (l m : Int) (hlo : (lo = none ∧ l = 0) ∨ ∃ k, lo = some (.int k l)) (hhi : (hi = none ∧ m = len) ∨ ∃ k, hi = some (.int k m))
    (h0 : 0 ≤ l) (h1 : l ≤ m) (h2 : m ≤ cap) : (Instr.sliceBounds true len cap lo hi none).run P w = .ok (l.toNat, m.toNat, cap) w := by
  have e2 : l ≤ (m.toNat : Int) := by omega
  rcases hlo with ⟨rfl, rfl⟩ | ⟨k, rfl⟩ <;> rcases hhi with ⟨rfl, rfl⟩ | ⟨k', rfl⟩
  · simp [Instr.sliceBounds]
  · simp [Instr.sliceBounds, run_sliceBound _ _ _ rfl _ _ (by omega : 0 ≤ m) h2]
  · simp only [Int.toNat_natCast] at e2
    simp [Instr.sliceBounds, run_sliceBound _ _ _ rfl _ _ h0 e2]
  · simp [Instr.sliceBounds, run_sliceBound _ _ _ rfl _ _ (by omega : 0 ≤ m) h2, run_sliceBound _ _ _ rfl _ _ h0 e2]

theorem run_sliceBounds3 (len cap : Nat) (lo : Option Value) (hi mx : Value) (l m : Int) (hlo : (lo = none ∧ l = 0) ∨ ∃ k, lo = some (.int k l)) (k1 k2 : IntKind) (hhi : hi = .int k1 m) (hmx : mx = .int k2 m)
    (h0 : 0 ≤ l) (h1 : l ≤ m) (h2 : m ≤ cap) : (Instr.sliceBounds true len cap lo (some hi) (some mx)).run P w = .ok (l.toNat, m.toNat, m.toNat) w := by
  have e2 : l ≤ (m.toNat : Int) := by omega
  have e3 : m ≤ (m.toNat : Int) := by omega
  subst hhi hmx
  rcases hlo with ⟨rfl, rfl⟩ | ⟨k, rfl⟩
  · simp [Instr.sliceBounds, run_sliceBound _ _ _ rfl _ _ (by omega : 0 ≤ m) h2, run_sliceBound _ _ _ rfl _ _ (by omega : 0 ≤ m) e3]
  · simp [Instr.sliceBounds, run_sliceBound _ _ _ rfl _ _ (by omega : 0 ≤ m) h2, run_sliceBound _ _ _ rfl _ _ (by omega : 0 ≤ m) e3, run_sliceBound _ _ _ rfl _ _ h0 e2]

theorem sub_rep {u : Ty} {xs : List u.den} {a : Option Addr} {cap c' : Nat} {l m q : Nat} (hlm : l ≤ m) (hm : m ≤ List.length xs) (hcap : List.length xs ≤ cap) (hms : List.length xs ≤ maxSl) (hq : q = l → m = l) (hc : m - l ≤ c')
    (hr : xs = [] ∨ ∃ b off blk, a = some ⟨b, off, none⟩ ∧ h b = some blk ∧ off + List.length xs * u.size ≤ blk.length ∧ ∀ i x, xs[i]? = some x → rep h u x (cut blk (off + i * u.size) u.size)) :
    rep h (.slice u) ((xs.drop l).take (m - l)) [.slice (if q = l then a else a.map (·.add (l * u.size))) (m - l) c'] := by
  have hlen : ((xs.drop l).take (m - l)).length = m - l := by simp; omega
  simp only [rep]
  refine ⟨_, c', by rw [hlen], by omega, by omega, ?_⟩
  rcases hr with rfl | ⟨b, off, blk, rfl, hb, hl, hall⟩
  · left; simp
  · by_cases hz : l = m
    · left; subst hz; simp
    · right
      have hql : q ≠ l := fun e => hz (hq e).symm
      refine ⟨b, off + l * u.size, blk, by simp [hql, addr_add], hb, ?_, ?_⟩
      · rw [hlen]
        have h1 : m * u.size ≤ List.length xs * u.size := Nat.mul_le_mul_right _ hm
        have h2 : (m - l) * u.size = m * u.size - l * u.size := Nat.sub_mul _ _ _
        have h3 : l * u.size ≤ m * u.size := Nat.mul_le_mul_right _ hlm
        omega
      · intro i x hi
        rw [List.getElem?_take] at hi
        split at hi
        · rw [List.getElem?_drop] at hi
          have := hall (l + i) x hi
          rw [Nat.add_mul] at this
          rw [Nat.add_assoc]; exact this
        · simp at hi

theorem pSlice_sound {ev : Operand → Option AV} {e : Operand → Value} {t : TypeId} {x : Operand} {lo hi mx : Option Operand} {av : AV} {ob : Prop}
    (hev : ∀ x y, ev x = some y → VRel h ρ tm y (e x) ∧ y.sure = true) (hs : pSlice P ev t x lo hi mx = some (av, ob)) (ho : ob) :
    Gives P h ρ tm w (Instr.sliceAt t (e x) (lo.map e) (hi.map e) (mx.map e)) av := by
  unfold pSlice at hs
  split at hs
  · rename_i el uu xs hu hx
    split at hs
    · rename_i hsz
      have hsz := sizeIs_spec hsz
      obtain ⟨a, cap, hv, hm, hc, hr⟩ := sl_form (repV_slice.1 (hev _ _ hx).1)
      rw [hv]
      split at hs
      · rename_i l m hlo hhi
        have hl := loOf_spec hev hlo
        have hh := hiOf_spec hev hhi
        have hl' : (lo.map e = none ∧ l = 0) ∨ ∃ k, lo.map e = some (.int k l) := hl.imp (fun q => ⟨by simp [q.1], q.2⟩) id
        have hh' : (hi.map e = none ∧ m = (List.length xs : Int)) ∨ ∃ k, hi.map e = some (.int k m) := hh.imp (fun q => ⟨by simp [q.1], q.2⟩) id
        split at hs
        · simp only [Option.some.injEq, Prod.mk.injEq] at hs; obtain ⟨rfl, rfl⟩ := hs
          obtain ⟨h0, h1, h2⟩ := ho
          refine ⟨_, ?_, repV_slice.2 (sub_rep (h := h) (cap := cap) (c' := cap - l.toNat) (q := cap) (by omega) (by omega) hc hm (by omega) (by omega) hr), rfl⟩
          simp only [Instr.sliceAt, Instr.slice, Sem.run_bind, run_underlying' hu, Result.andThen_ok, Option.map_none]
          rw [run_sliceBounds2 (P := P) (w := w) (List.length xs) cap _ _ l m hl' hh' h0 h1 (by omega)]
          simp only [Result.andThen_ok, run_sizeOf' hsz]
          rfl
        · rename_i q
          split at hs
          · rename_i hi' q' hq'
            simp only [Option.some.injEq, Prod.mk.injEq] at hs; obtain ⟨rfl, rfl⟩ := hs
            obtain ⟨⟨h0, h1, h2⟩, rfl⟩ := ho
            obtain ⟨k2, hk2⟩ := Good.iOf (fun z hz => hev _ z hz) hq'
            obtain ⟨k1, hk1⟩ : ∃ k, e hi' = .int k q' := by
              rcases hh with ⟨hn, _⟩ | ⟨k, hk⟩
              · simp at hn
              · exact ⟨k, by simpa using hk⟩
            have hlen : ((xs.drop l.toNat).take (q'.toNat - l.toNat)).length = q'.toNat - l.toNat := by simp; omega
            refine ⟨.slice (if q'.toNat = l.toNat then a else a.map (·.add (l.toNat * uu.size))) (q'.toNat - l.toNat) (q'.toNat - l.toNat), ?_, ⟨_, by rw [hlen], sub_rep (h := h) (cap := cap) (q := q'.toNat) (by omega) (by omega) hc hm (by omega) (by omega) hr⟩, rfl⟩
            simp only [Instr.sliceAt, Instr.slice, Sem.run_bind, run_underlying' hu, Result.andThen_ok, Option.map_some]
            rw [run_sliceBounds3 (P := P) (w := w) (List.length xs) cap _ _ _ l q' hl' k1 k2 hk1 hk2 h0 h1 (by omega)]
            simp only [Result.andThen_ok, run_sizeOf' hsz]
            rfl
          · simp at hs
      · simp at hs
    · simp at hs
  · simp at hs

theorem pSliceO_sound {ev : Operand → Option AV} {e : Operand → Value} {t : TypeId} {x : Operand} {lo hi mx : Option Operand} {av : AV} {ob : Prop}
    (hev : ∀ x y, ev x = some y → VRel h ρ tm y (e x) ∧ y.sure = true) (hobj : ∀ s x, get L s = some x → ORel own h ρ w (ρ s) x) (hs : pSliceO P L ev t x lo hi mx = some (av, ob)) (ho : ob) :
    Gives P h ρ tm w (Instr.sliceAt t (e x) (lo.map e) (hi.map e) (mx.map e)) av := by
  unfold pSliceO at hs
  split at hs
  · rename_i el s hu hx
    split at hs
    · rename_i uu xs hg
      split at hs
      · rename_i hsz
        have hsz := sizeIs_spec hsz
        split at hs
        · rename_i l m hlo hhi
          have hl := loOf_spec hev hlo
          have hh := hiOf_spec hev hhi
          have hl' : (lo.map e = none ∧ l = 0) ∨ ∃ k, lo.map e = some (.int k l) := hl.imp (fun q => ⟨by simp [q.1], q.2⟩) id
          have hh' : (hi.map e = none ∧ m = (List.length xs : Int)) ∨ ∃ k, hi.map e = some (.int k m) := hh.imp (fun q => ⟨by simp [q.1], q.2⟩) id
          simp only [Option.some.injEq, Prod.mk.injEq] at hs; obtain ⟨rfl, rfl⟩ := hs
          obtain ⟨h0, h1, h2⟩ := ho
          have hv : e x = hdrOf (ρ s) := (hev _ _ hx).1.1
          obtain ⟨bs, cap, hrs, hle⟩ : ∃ bs cap, hdrOf (ρ s) = .slice bs (List.length xs) cap ∧ List.length xs ≤ cap := by
            obtain ⟨e0, ⟨hr, hn⟩ | ⟨b, cap, hr, h5⟩⟩ := seq_hdr (hobj _ _ hg)
            · subst hn; exact ⟨none, 0, e0.trans hr, Nat.le_refl _⟩
            · exact ⟨_, cap, e0.trans hr, h5⟩
          refine ⟨.slice (if cap = l.toNat then bs else bs.map (·.add (l.toNat * uu.size))) (m.toNat - l.toNat) (cap - l.toNat), ?_, ⟨bs, _, cap, hrs, h0, h1, h2, hle, rfl⟩, rfl⟩
          rw [hv, hrs]
          simp only [Instr.sliceAt, Instr.slice, Sem.run_bind, run_underlying' hu, Result.andThen_ok, Option.map_none]
          rw [run_sliceBounds2 (P := P) (w := w) (List.length xs) cap _ _ l m hl' hh' h0 h1 (by omega)]
          simp only [Result.andThen_ok, run_sizeOf' hsz]
          rfl
        · simp at hs
      · simp at hs
    · rename_i d uu xs _ hg
      split at hs
      · rename_i hsz
        have hsz := sizeIs_spec hsz
        split at hs
        · rename_i l m hlo hhi
          have hl := loOf_spec hev hlo
          have hh := hiOf_spec hev hhi
          have hl' : (lo.map e = none ∧ l = 0) ∨ ∃ k, lo.map e = some (.int k l) := hl.imp (fun q => ⟨by simp [q.1], q.2⟩) id
          have hh' : (hi.map e = none ∧ m = (List.length xs : Int)) ∨ ∃ k, hi.map e = some (.int k m) := hh.imp (fun q => ⟨by simp [q.1], q.2⟩) id
          simp only [Option.some.injEq, Prod.mk.injEq] at hs; obtain ⟨rfl, rfl⟩ := hs
          obtain ⟨h0, h1, h2⟩ := ho
          have hv : e x = hdrOf (ρ s) := (hev _ _ hx).1.1
          obtain ⟨bs, cap, hrs, hle⟩ : ∃ bs cap, hdrOf (ρ s) = .slice bs (List.length xs) cap ∧ List.length xs ≤ cap := by
            rcases rows_hdr (hobj _ _ hg) with ⟨hr, hn⟩ | ⟨b, cap, hr, h5⟩
            · subst hn; exact ⟨none, 0, hr, Nat.le_refl _⟩
            · exact ⟨_, cap, hr, h5⟩
          refine ⟨.slice (if cap = l.toNat then bs else bs.map (·.add (l.toNat * 1))) (m.toNat - l.toNat) (cap - l.toNat), ?_, ⟨bs, _, cap, hrs, h0, h1, h2, hle, rfl⟩, rfl⟩
          rw [hv, hrs]
          simp only [Instr.sliceAt, Instr.slice, Sem.run_bind, run_underlying' hu, Result.andThen_ok, Option.map_none]
          rw [run_sliceBounds2 (P := P) (w := w) (List.length xs) cap _ _ l m hl' hh' h0 h1 (by omega)]
          simp only [Result.andThen_ok, run_sizeOf' hsz]
          rfl
        · simp at hs
      · simp at hs
    · simp at hs
  · simp at hs

theorem pNil_sound {orc : Option SV} {x : Option AV} {u : Value} {av : AV} {ob : Prop} (hx : Good h ρ tm x u) (hs : pNil orc x = some (av, ob)) (ho : ob) : ∃ a, u = .pointer (some a) ∧ VRel h ρ tm av u ∧ av.sure = true := by
  unfold pNil at hs
  split at hs
  · simp only [Option.some.injEq, Prod.mk.injEq] at hs; obtain ⟨rfl, rfl⟩ := hs
    have hv := (hx _ rfl).1
    obtain ⟨b, off, blk, _, _, _, hq⟩ := id hv
    exact ⟨_, hq, hv, rfl⟩
  · rename_i x
    split at hs
    · rename_i t p
      split at hs
      · rename_i ht
        subst ht
        simp only [Option.some.injEq, Prod.mk.injEq] at hs; obtain ⟨rfl, rfl⟩ := hs
        have hv : RepV h .tree x u := (hx _ rfl).1
        have hv2 : repT h x [u] := by simpa [RepV, Ty.isAgg, rep] using hv
        obtain ⟨b, off, blk, hq, h1, h2, h3⟩ := repT_open ho hv2
        simp only [List.cons.injEq, and_true] at hq
        subst hq
        exact ⟨_, rfl, ⟨b, off, blk, h1, h2, h3, rfl⟩, rfl⟩
      · cases hs
    · cases hs
  · simp only [Option.some.injEq, Prod.mk.injEq] at hs; obtain ⟨rfl, rfl⟩ := hs
    have hv := (hx _ rfl).1
    obtain ⟨b, _, hq⟩ := id hv
    exact ⟨_, hq, hv, rfl⟩
  · simp only [Option.some.injEq, Prod.mk.injEq] at hs; obtain ⟨rfl, rfl⟩ := hs
    have hv := (hx _ rfl).1
    obtain ⟨b, _, _, hq⟩ := id hv
    exact ⟨_, hq, hv, rfl⟩
  · cases hs
theorem pSliceA_sound {t : TypeId} {x : Option AV} {u : Value} {av : AV} {ob : Prop} (hx : Good h ρ tm x u) (hs : pSliceA P t x = some (av, ob)) : Gives P h ρ tm w (Instr.sliceAt t u none none none) av := by
  unfold pSliceA at hs
  split at hs
  · rename_i n' e n uu xs hu
    · split at hs
      · rename_i hc
        obtain ⟨rfl, hsz, hmx⟩ := hc
        have hsz := sizeIs_spec hsz
        simp only [Option.some.injEq, Prod.mk.injEq] at hs; obtain ⟨rfl, rfl⟩ := hs
        obtain ⟨b, off, blk, hb, hl, hrep, rfl⟩ := (hx _ rfl).1
        simp only [rep] at hrep
        obtain ⟨hlen, hcl, hall⟩ := hrep
        simp only [Ty.size] at hl hcl hall
        have hrs : rep h (.slice uu) xs [.slice (some ⟨b, off, none⟩) n' n'] := by
          simp only [rep]
          refine ⟨some ⟨b, off, none⟩, n', by rw [hlen], by omega, by omega, .inr ⟨b, off, blk, rfl, hb, by rw [hlen]; exact hl, fun i x hix => ?_⟩⟩
          have hlt := (List.getElem?_eq_some_iff.1 hix).1
          have hb1 : (i + 1) * uu.size ≤ n' * uu.size := Nat.mul_le_mul_right _ (by omega)
          rw [Nat.add_mul, Nat.one_mul] at hb1
          have := hall i x hix
          rw [cut_cut _ _ _ _ _ hb1] at this
          exact this
        refine ⟨.slice (some ⟨b, off, none⟩) n' n', ?_, repV_slice.2 hrs, rfl⟩
        simp only [Instr.sliceAt, Instr.sureAddr, Sem.run_bind, run_underlying' hu, Result.andThen_ok, Sem.run_pure, Instr.sliceBounds, run_sizeOf' hsz]
        simp [addr_add]
      · cases hs
  · cases hs
theorem pstep_sound {ev : Operand → Option AV} {e : Operand → Value} {orc : Option SV} {o : Oper} {av : AV} {ob : Prop}
    (hev : ∀ x y, ev x = some y → VRel h ρ tm y (e x) ∧ y.sure = true)
    (hobj : ∀ s x, get L s = some x → ORel own h ρ w (ρ s) x)
    (hs : pstep P L ev orc o.op = some (av, ob)) (ho : ob) :
    ∃ v, (execOp e o).run P w = .ok (.value v) w ∧ VRel h ρ tm av v ∧ av.sure = true := by
  have g : ∀ x, Good h ρ tm (ev x) (e x) := fun x z hz => hev x z hz
  have fin : ∀ (s : Sem Value), Gives P h ρ tm w s av → execOp e o = (do pure (.value (← s)) : Sem Next) → ∃ v, (execOp e o).run P w = .ok (.value v) w ∧ VRel h ρ tm av v ∧ av.sure = true := by
    rintro s ⟨v, hr, hv, hsu⟩ he
    exact ⟨v, by rw [he, Sem.run_bind, hr]; rfl, hv, hsu⟩
  unfold pstep at hs
  split at hs
  · rename_i x hop
    obtain ⟨y, hy, he⟩ := Option.map_eq_some_iff.1 hs
    simp only [Prod.mk.injEq] at he
    obtain ⟨rfl, rfl⟩ := he
    exact ⟨e x, by simp [execOp, hop], hev _ _ hy⟩
  · rename_i x hop
    obtain ⟨y, hy, he⟩ := Option.map_eq_some_iff.1 hs
    simp only [Prod.mk.injEq] at he
    obtain ⟨rfl, rfl⟩ := he
    exact ⟨e x, by simp [execOp, hop], hev _ _ hy⟩
  · rename_i op xt x y yt hop
    obtain ⟨hg, hb⟩ := pBin_sound (w := w) (g x) (g y) hs ho
    obtain ⟨v, hr, hv, hsu⟩ := hb
    exact ⟨v, by simp only [execOp, hop, Sem.run_bind, hg, Result.andThen_ok, hr]; rfl, hv, hsu⟩
  · rename_i op t x hop
    exact fin _ (pUn_sound (g x) hs) (by simp [execOp, hop])
  · rename_i s d x hop
    exact fin _ (pConv_sound (g x) hs) (by simp [execOp, hop])
  · rename_i c hop
    split at hs
    · rename_i b hb
      unfold pBuiltin at hs
      have hex : execOp e o = builtin b c.argTypes o.type (c.args.map fun | .const _ => true | _ => false) (c.args.map e) := by
        simp [execOp, hop, resolve, hb, invoke]
        rfl
      split at hs
      · rename_i x t ha ht
        have ha' : c.args = #[x] := by rw [← Array.toList_inj]; simpa using ha
        have ht' : c.argTypes = #[t] := by rw [← Array.toList_inj]; simpa using ht
        refine fin _ (pLen_sound (P := P) (own := own) (w := w) (ty := o.type) (g x) hobj hs) ?_
        rw [hex]; simp [builtin, ha', ht']
      · rename_i x y ha
        have ha' : c.args = #[x, y] := by rw [← Array.toList_inj]; simpa using ha
        refine fin _ (pMin_sound (P := P) (w := w) (ts := c.argTypes) (ty := o.type) (g x) (g y) hs) ?_
        rw [hex]; simp [builtin, ha']
      · rename_i x y ha
        have ha' : c.args = #[x, y] := by rw [← Array.toList_inj]; simpa using ha
        refine fin _ (pMax_sound (P := P) (w := w) (ts := c.argTypes) (ty := o.type) (g x) (g y) hs) ?_
        rw [hex]; simp [builtin, ha']
      · simp at hs
    · simp at hs
  · rename_i x i hop
    exact fin _ (pExtract_sound (g x) hs) (by simp [execOp, hop])
  · rename_i x hop
    obtain ⟨ad, hv, hrel, hsu⟩ := pNil_sound (g x) hs ho
    exact ⟨e x, by simp [execOp, hop, hv], hrel, hsu⟩
  · rename_i fn first caps hop
    split at hs
    · rename_i f
      split at hs
      · rename_i hf
        obtain ⟨cs, hcs, he⟩ := Option.map_eq_some_iff.1 hs
        simp only [Prod.mk.injEq] at he
        obtain ⟨rfl, rfl⟩ := he
        have hall := mapM_opt (R := fun p c => Refs ρ p (e c)) (fun c p hp => (g c).refOf hp) _ _ hcs
        have hf' : first = #[] := Array.eq_empty_of_size_eq_zero hf
        exact ⟨.func (.func f) #[] (caps.map e), by simp [execOp, hop, Instr.makeFunc, hf'], ⟨caps.toList.map e, by rw [← Array.toList_map], all2_map_right hall⟩, rfl⟩
      · simp at hs
    · simp at hs
  · rename_i t x f hop
    exact fin _ (pFieldAddr_sound (g x) hs) (by simp [execOp, hop])
  · rename_i t x f hop
    exact fin _ (pField_sound (g x) hs) (by simp [execOp, hop])
  · rename_i t x i hop
    exact fin _ (pIndexAddr_sound (g x) (g i) rfl hobj hs ho) (by simp [execOp, hop])
  · rename_i t x i hop
    exact fin _ (pIndex_sound (g x) (g i) rfl hs ho) (by simp [execOp, hop])
  · rename_i t x hop
    split at hs
    · rename_i r hr
      obtain rfl := Option.some.inj hs
      exact fin _ (pSlice_sound hev hr ho) (by simp [execOp, hop])
    · exact fin _ (pSliceA_sound (g x) hs) (by simp [execOp, hop])
  · rename_i t x lo hi mx _ hop
    split at hs
    · rename_i r hr
      obtain rfl := Option.some.inj hs
      exact fin _ (pSlice_sound hev hr ho) (by simp [execOp, hop])
    · exact fin _ (pSliceO_sound hev hobj hs ho) (by simp [execOp, hop])
  · simp at hs
end
end Go.Sl
