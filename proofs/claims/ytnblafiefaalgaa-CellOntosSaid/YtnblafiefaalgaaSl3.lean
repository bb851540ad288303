/- Rules of the walk, contracts and calls of the certifying translation. -/
import Derived.Test.YtnblafiefaalgaaSl2
import Derived.TacticsIn
import Derived.OrdersIn
import Derived.LoopNIn
import Derived.RangeFuncLeaves
import Derived.RangeFuncRecord
set_option linter.all false
/- A step with its guard and its effects; runs of steps. -/
namespace Go.Sl
open Go

def AllP : List Prop → Prop
  | [] => True
  | [p] => p
  | p :: r => p ∧ AllP r

theorem AllP.mem : ∀ {l : List Prop}, AllP l → ∀ p ∈ l, p
  | [], _, p, hp => by simp at hp
  | [q], h, p, hp => by obtain rfl := List.mem_singleton.1 hp; exact h
  | q :: r :: l, h, p, hp => by
    simp only [AllP] at h
    rcases List.mem_cons.1 hp with rfl | hp
    · exact h.1
    · exact h.2.mem p hp

def owed (b : Bool) (p : Prop) : List Prop := if b then [p] else []

/-- the slot that a guard looks at -/
def guardSlot (ops : Array Oper) (j : Nat) : Option Nat := (ops[j]?).bind (·.dst)

/-- an operation that is carried out -/
def exec (P : Program) (fr : Fr) (L : LL) (gd : Option (Nat × Bool)) (orc : Option Orc) (o : Oper) : Option (Fr × LL × List Prop) :=
  match o.op, o.dst with
  | .alloc t, some d =>
    if nameOk d then (eAlloc P (match orc with | some .typed => true | _ => false) t).map fun ob => (putF (killF d fr) d (.one (.ptr d 0)), newL d ob L, []) else none
  | .box _ x, some d => if nameOk d then (eBox d (evS fr gd x)).map fun ob => (putF (killF d fr) d (.one (.ptr d 0)), newL d ob L, []) else none
  | .buildSlice t n ps, some d => if nameOk d then (eBuildN P d (evS fr gd) t n ps.toList).map fun ob => (putF (killF d fr) d (.one (.slc d)), newL d ob L, []) else none
  | .makeSlice t l c, some d => if nameOk d then (eMakeN P (match orc with | some .typed => true | _ => false) t (evS fr gd l) (evS fr gd c)).map fun r => (putF (killF d fr) d (.one (.slc d)), newL d r.1 L, [r.2]) else none
  | .makeMap t none, some d => if nameOk d then (eMakeMap P t).map fun ob => (putF (killF d fr) d (.one (.slc d)), newL d ob L, []) else none
  | .mapUpdate t x k v, none => (eMapUpd P L t (evS fr gd x) (evS fr gd k) (evS fr gd v)).map fun r => (fr, put L r.1 r.2.1, [r.2.2])
  | .call c, none =>
    match c.callee, c.args.toList, c.argTypes.toList with
    | .builtin .delete, [x, k], [t, _] => (eMapDel P L t (evS fr gd x) (evS fr gd k)).map fun r => (fr, put L r.1 r.2, [])
    | _, _, _ => none
  | .store t x v, none => (eStore P L (Orc.sv orc) t (evS fr gd x) (evS fr gd v)).map fun r => (fr, put L r.1 r.2.1, [r.2.2])
  | .call c, some d =>
    match c.callee, c.args.toList, c.argTypes.toList with
    | .builtin .append, [s, x], [t, t2] =>
      match eAppendN P L d t t2 (evS fr gd s) (evS fr gd x) with
      | some (nm, ob, p) => if nameOk nm then some (putF (killF nm fr) d (.one (.slc nm)), newL nm ob L, [p]) else none
      | none => none
    | _, _, _ => (qstep P fr L gd (Orc.sv orc) o.op).map fun r => (putF fr d r.1, L, owed (owes o.op (Orc.sv orc)) r.2)
  | op, some d => (qstep P fr L gd (Orc.sv orc) op).map fun r => (putF fr d r.1, L, owed (owes op (Orc.sv orc)) r.2)
  | _, none => none

def step (P : Program) (ops : Array Oper) (fr : Fr) (L : LL) (og ov : Option Orc) (o : Oper) : Option (Fr × LL × List Prop) :=
  match o.guard with
  | none => exec P fr L none ov o
  | some (j, b) =>
    match guardSlot ops j with
    | some g =>
      match og with
      | some (.known c) =>
        match get fr g with
        | some (.one (.dat .bool v)) =>
          if c = b then (exec P fr L (some (g, b)) ov o).map fun r => (r.1, r.2.1, (v = c) :: r.2.2)
          else match o.dst with
            | some d => some (putF fr d (.tup []), L, [v = c])
            | none => some (fr, L, [v = c])
        | some (.tup []) => match o.dst with
            | some d => some (putF fr d (.tup []), L, [])
            | none => some (fr, L, [])
        | _ => none
      | _ =>
        match o.dst with
        | some d =>
          if d = g then none else
          match qstep P fr L (some (g, b)) (Orc.sv ov) o.op with
          | some (.one x, p) => some (putF fr d (.mb g b x), L, owed (owes o.op (Orc.sv ov)) p)
          | _ => none
        | none => none
    | none => none

def run (P : Program) (ops : Array Oper) (orcs : List (Nat × Orc)) : Nat → List Oper → Fr → LL → Option (Fr × LL × List Prop)
  | _, [], fr, L => some (fr, L, [])
  | i, o :: r, fr, L =>
    match step P ops fr L (get orcs (2 * i)) (get orcs (2 * i + 1)) o with
    | some (fr', L', p) =>
      match run P ops orcs (i + 1) r fr' L' with
      | some (fr2, L2, q) => some (fr2, L2, p ++ q)
      | none => none
    | none => none

section
variable {C : Ctx} {h : Heap} {ρ : Nat → Value} {fr : Fr} {L : LL} {a : Act} {w : World}

theorem slot_bool (hr : RelH C h ρ fr L a w) {g : Nat} {v : Bool} (hg : get fr g = some (.one (.dat .bool v))) : a.tmps[g]? = some (.bool v) := by
  obtain ⟨hlt, hv⟩ := hr.fr g _ hg
  have : a.tmps.getD g undef = .bool v := (repV_bool (h := h)).1 hv
  have hsz : g < a.tmps.size := by rw [hr.size]; exact hlt
  rw [Array.getD_eq_getD_getElem?, Array.getElem?_eq_getElem hsz] at this
  rw [Array.getElem?_eq_getElem hsz]
  simpa using this

/-- what a step must show -/
def Does (C : Ctx) (ops : Array Oper) (o : Oper) (a : Act) (w : World) (fr' : Fr) (L' : LL) : Prop :=
  ∀ (Q : Exit → Act → World → Prop) (K : Act → World → Prop), (∀ a' w', Rel C fr' L' a' w' → K a' w') →
    if Region.wanted o (yielded ops a.tmps) = true then o.wp C.P a w K Q else K (a.put o.dst undef) w

theorem does_of_exec {ops : Array Oper} {o : Oper} {fr' : Fr} {L' : LL} (hw : Region.wanted o (yielded ops a.tmps) = true)
    (he : (∃ v w', (execOp a.eval o).run C.P w = .ok (.value v) w' ∧ Rel C fr' L' (a.put o.dst v) w') ∨ (∃ w', (execOp a.eval o).run C.P w = .ok .skip w' ∧ Rel C fr' L' (a.put o.dst undef) w')) :
    Does C ops o a w fr' L' := by
  intro Q K hK
  rw [if_pos hw]
  unfold Oper.wp
  rcases he with ⟨v, w', hr, hrel⟩ | ⟨w', hr, hrel⟩
  · rw [hr, Oper.upon_value]; exact hK _ _ hrel
  · rw [hr, Oper.upon_skip]; exact hK _ _ hrel

theorem quiet_put (hr : RelH C h ρ fr L a w) {d : Nat} {av : AV} {v : Value} (hd : d < C.n) (hv : VRel h ρ a.tmps av v) (hs : av.sure = true) : Rel C (putF fr d av) L (a.put (some d) v) w := by
  refine ⟨h, ρ, hr.putSlot d av v hd ?_⟩
  cases av <;> first | exact hv | simp [AV.sure] at hs

theorem exec_sound (hr : RelH C h ρ fr L a w) {gd : Option (Nat × Bool)} (hg : ∀ g b, gd = some (g, b) → a.tmps[g]? = some (.bool b)) {orc : Option Orc} {o : Oper} {fr' : Fr} {L' : LL} {obs : List Prop}
    (hd : ∀ d, o.dst = some d → d < C.n) (hs : exec C.P fr L gd orc o = some (fr', L', obs)) (ho : AllP obs) :
    (∃ v w', (execOp a.eval o).run C.P w = .ok (.value v) w' ∧ Rel C fr' L' (a.put o.dst v) w') ∨ (∃ w', (execOp a.eval o).run C.P w = .ok .skip w' ∧ Rel C fr' L' (a.put o.dst undef) w') := by
  have hev : ∀ x y, evS fr gd x = some y → VRel h ρ a.tmps y (a.eval x) ∧ y.sure = true := fun x y hy => evS_sound hr.fr hg hy
  have quiet : ∀ d, o.dst = some d → (qstep C.P fr L gd (Orc.sv orc) o.op).map (fun r => (putF fr d r.1, L, owed (owes o.op (Orc.sv orc)) r.2)) = some (fr', L', obs) →
      ∃ v w', (execOp a.eval o).run C.P w = .ok (.value v) w' ∧ Rel C fr' L' (a.put o.dst v) w' := by
    intro d hdst hq
    obtain ⟨⟨av, p⟩, hq1, he⟩ := Option.map_eq_some_iff.1 hq
    simp only [Prod.mk.injEq] at he
    obtain ⟨rfl, rfl, rfl⟩ := he
    have hp : p := by
      cases hb : owes o.op (Orc.sv orc) with
      | true => rw [hb] at ho; exact ho
      | false => exact owes_spec hq1 hb
    obtain ⟨v, hv, hrel, hsu⟩ := qstep_sound hr hg hq1 hp
    exact ⟨v, w, hv, by rw [hdst]; exact quiet_put hr (hd d hdst) hrel hsu⟩
  unfold exec at hs
  split at hs
  · rename_i t d hop hdst
    split at hs
    · rename_i hn
      obtain ⟨ob, hob, he⟩ := Option.map_eq_some_iff.1 hs
      simp only [Prod.mk.injEq] at he
      obtain ⟨rfl, rfl, rfl⟩ := he
      obtain ⟨w', hrun, hrel⟩ := eAlloc_sound hr d hn hob
      refine .inl ⟨_, w', by simp only [execOp, hop, Sem.run_bind, hrun, Result.andThen_ok]; rfl, ?_⟩
      rw [hdst]
      exact ⟨_, _, hrel.putSlot d _ _ (hd d hdst) ⟨w.heap.size, by simp [upd], rfl⟩⟩
    · simp at hs
  · rename_i t x d hop hdst
    split at hs
    · rename_i hn
      obtain ⟨ob, hob, he⟩ := Option.map_eq_some_iff.1 hs
      simp only [Prod.mk.injEq] at he
      obtain ⟨rfl, rfl, rfl⟩ := he
      obtain ⟨w', hrun, hrel⟩ := eBox_sound (P := C.P) (t := t) hr d hn (hev x) hob
      refine .inl ⟨_, w', by simp only [execOp, hop, Sem.run_bind, hrun, Result.andThen_ok]; rfl, ?_⟩
      rw [hdst]
      exact ⟨_, _, hrel.putSlot d _ _ (hd d hdst) ⟨w.heap.size, by simp [upd], rfl⟩⟩
    · simp at hs
  · rename_i t n ps d hop hdst
    split at hs
    · rename_i hn
      obtain ⟨ob, hob, he⟩ := Option.map_eq_some_iff.1 hs
      simp only [Prod.mk.injEq] at he
      obtain ⟨rfl, rfl, rfl⟩ := he
      obtain ⟨r, r0, w', hrun, h1, hr0, hrel⟩ := eBuildN_sound (P := C.P) hr hev d hn hob
      refine .inl ⟨_, w', by simp only [execOp, hop, Sem.run_bind, hrun, Result.andThen_ok]; rfl, ?_⟩
      rw [hdst]
      exact ⟨_, _, hrel.putSlot d _ _ (hd d hdst) ⟨by simp [upd, hr0], h1⟩⟩
    · simp at hs
  · rename_i t l c d hop hdst
    split at hs
    · rename_i hn
      obtain ⟨⟨ob, p⟩, hob, he⟩ := Option.map_eq_some_iff.1 hs
      simp only [Prod.mk.injEq] at he
      obtain ⟨rfl, rfl, rfl⟩ := he
      obtain ⟨r, r0, w', hrun, h1, hr0, hrel⟩ := eMakeN_sound (P := C.P) hr d hn (hev l) (hev c) hob ho
      refine .inl ⟨_, w', by simp only [execOp, hop, Sem.run_bind, hrun, Result.andThen_ok]; rfl, ?_⟩
      rw [hdst]
      exact ⟨_, _, hrel.putSlot d _ _ (hd d hdst) ⟨by simp [upd, hr0], h1⟩⟩
    · simp at hs
  · rename_i t d hop hdst
    split at hs
    · rename_i hn
      obtain ⟨ob, hob, he⟩ := Option.map_eq_some_iff.1 hs
      simp only [Prod.mk.injEq] at he
      obtain ⟨rfl, rfl, rfl⟩ := he
      obtain ⟨w', hrun, hrel⟩ := eMakeMap_sound (P := C.P) hr d hn hob
      refine .inl ⟨_, w', by simp only [execOp, hop, Option.map_none, Sem.run_bind, hrun, Result.andThen_ok]; rfl, ?_⟩
      rw [hdst]
      exact ⟨_, _, hrel.putSlot d _ _ (hd d hdst) ⟨by simp [upd]; rfl, rfl⟩⟩
    · simp at hs
  · rename_i t x k v hop hdst
    obtain ⟨⟨s, ob, p⟩, hob, he⟩ := Option.map_eq_some_iff.1 hs
    simp only [Prod.mk.injEq] at he
    obtain ⟨rfl, rfl, rfl⟩ := he
    obtain ⟨w', hrun, hrel⟩ := eMapUpd_sound (P := C.P) (tm := a.tmps) hr (hev x) (hev k) (hev v) hob ho
    refine .inr ⟨w', by simp only [execOp, hop, Sem.run_bind, hrun, Result.andThen_ok]; rfl, ?_⟩
    rw [hdst]
    exact ⟨_, _, hrel⟩
  · rename_i c hop hdst
    split at hs
    · rename_i x k t t2 hcal hargs hts
      obtain ⟨⟨s, ob⟩, hob, he⟩ := Option.map_eq_some_iff.1 hs
      simp only [Prod.mk.injEq] at he
      obtain ⟨rfl, rfl, rfl⟩ := he
      have ha' : c.args = #[x, k] := by rw [← Array.toList_inj]; simpa using hargs
      have ht' : c.argTypes = #[t, t2] := by rw [← Array.toList_inj]; simpa using hts
      obtain ⟨w', hrun, hrel⟩ := eMapDel_sound (P := C.P) (tm := a.tmps) (t2 := t2) (ty := o.type) hr (hev x) (hev k) hob
      refine .inl ⟨.tuple #[], w', ?_, ?_⟩
      · simp only [execOp, hop, resolve, hcal, ha', ht']
        simp [invoke, builtin, hrun]
      · rw [hdst]
        exact ⟨_, _, hrel⟩
    · simp at hs
  · rename_i t x v hop hdst
    obtain ⟨⟨s, ob, p⟩, hob, he⟩ := Option.map_eq_some_iff.1 hs
    simp only [Prod.mk.injEq] at he
    obtain ⟨rfl, rfl, rfl⟩ := he
    obtain ⟨w', hrun, hrel⟩ := eStore_sound (P := C.P) (tm := a.tmps) hr (hev x) (hev v) hob ho
    refine .inr ⟨w', by simp only [execOp, hop, Sem.run_bind, hrun, Result.andThen_ok]; rfl, ?_⟩
    rw [hdst]
    exact ⟨_, _, hrel⟩
  · rename_i c d hop hdst
    split at hs
    · rename_i s x t t2 hcal hargs hts
      split at hs
      · rename_i nm ob p hap
        split at hs
        · rename_i hn
          simp only [Option.some.injEq, Prod.mk.injEq] at hs
          obtain ⟨rfl, rfl, rfl⟩ := hs
          have ha' : c.args = #[s, x] := by rw [← Array.toList_inj]; simpa using hargs
          have ht' : c.argTypes = #[t, t2] := by rw [← Array.toList_inj]; simpa using hts
          obtain ⟨r, r0, w', hrun, h1, hr0, hrel⟩ := eAppendN_sound (P := C.P) (ty := o.type) hr (hev s) (hev x) hap ho hn
          refine .inl ⟨r, w', ?_, ?_⟩
          · simp only [execOp, hop, resolve, hcal, ha', ht']
            simp [invoke, builtin, hrun]
          · rw [hdst]
            exact ⟨_, _, hrel.putSlot d _ _ (hd d hdst) ⟨by simp [upd, hr0], h1⟩⟩
        · simp at hs
      · simp at hs
    · rename_i hno
      exact .inl (quiet d hdst hs)
  · exact .inl (quiet _ (by assumption) hs)
  · simp at hs

theorem step_sound (hr : RelH C h ρ fr L a w) {ops : Array Oper} {og ov : Option Orc} {o : Oper} {fr' : Fr} {L' : LL} {obs : List Prop}
    (hd : ∀ d, o.dst = some d → d < C.n) (hs : step C.P ops fr L og ov o = some (fr', L', obs)) (ho : AllP obs) : Does C ops o a w fr' L' := by
  unfold step at hs
  split at hs
  · rename_i hgd
    exact does_of_exec (by simp [Region.wanted, hgd]) (exec_sound hr (fun g b e => by cases e) hd hs ho)
  · rename_i j b hgd
    split at hs
    · rename_i g hgs
      have hy : yielded ops a.tmps j = match a.tmps[g]? with | some (.bool b) => some b | _ => none := by
        unfold guardSlot at hgs
        unfold yielded
        rw [hgs]; rfl
      split at hs
      · rename_i c
        split at hs
        · rename_i v hv
          have htm := slot_bool hr hv
          rw [htm] at hy
          simp only at hy
          split at hs
          · rename_i hcb
            subst hcb
            obtain ⟨⟨f1, l1, p1⟩, he1, he2⟩ := Option.map_eq_some_iff.1 hs
            simp only [Prod.mk.injEq] at he2
            obtain ⟨rfl, rfl, rfl⟩ := he2
            have hvc : v = c := ho.mem _ (by simp)
            subst hvc
            have hp1 : AllP p1 := by
              cases p1 with
              | nil => trivial
              | cons q r => exact ho.2
            exact does_of_exec (by simp [Region.wanted, hgd, hy]) (exec_sound hr (fun g' b' e => by simp at e; obtain ⟨rfl, rfl⟩ := e; exact htm) hd he1 hp1)
          · rename_i hcb
            have hvc : v = c := by
              split at hs <;> simp only [Option.some.injEq, Prod.mk.injEq] at hs <;> obtain ⟨_, _, rfl⟩ := hs <;> exact ho
            subst hvc
            have hw : Region.wanted o (yielded ops a.tmps) = false := by
              simp [Region.wanted, hgd, hy, hcb]
            intro Q K hK
            rw [if_neg (by simp [hw])]
            split at hs
            · rename_i d hdst
              simp only [Option.some.injEq, Prod.mk.injEq] at hs
              obtain ⟨rfl, rfl, rfl⟩ := hs
              rw [hdst]
              exact hK _ _ (quiet_put hr (hd d hdst) ⟨[], rfl, .nil⟩ rfl)
            · rename_i hdst
              simp only [Option.some.injEq, Prod.mk.injEq] at hs
              obtain ⟨rfl, rfl, rfl⟩ := hs
              rw [hdst]
              exact hK _ _ ⟨h, ρ, hr⟩
        · rename_i hv
          have hy2 : yielded ops a.tmps j = none := by
            rw [hy]
            obtain ⟨hlt, vs, hvs, hall⟩ := hr.fr g _ hv
            cases hall
            have hsz : g < a.tmps.size := by rw [hr.size]; exact hlt
            rw [Array.getD_eq_getD_getElem?, Array.getElem?_eq_getElem hsz] at hvs
            simp only [Option.getD_some] at hvs
            rw [Array.getElem?_eq_getElem hsz, hvs]
          have hw : Region.wanted o (yielded ops a.tmps) = false := by
            simp [Region.wanted, hgd, hy2]
          intro Q K hK
          rw [if_neg (by simp [hw])]
          split at hs
          · rename_i d hdst
            simp only [Option.some.injEq, Prod.mk.injEq] at hs
            obtain ⟨rfl, rfl, rfl⟩ := hs
            rw [hdst]
            exact hK _ _ (quiet_put hr (hd d hdst) ⟨[], rfl, .nil⟩ rfl)
          · rename_i hdst
            simp only [Option.some.injEq, Prod.mk.injEq] at hs
            obtain ⟨rfl, rfl, rfl⟩ := hs
            rw [hdst]
            exact hK _ _ ⟨h, ρ, hr⟩
        · simp at hs
      · split at hs
        · rename_i d hdst
          split at hs
          · simp at hs
          · rename_i hdg
            split at hs
            · rename_i x p hq
              simp only [Option.some.injEq, Prod.mk.injEq] at hs
              obtain ⟨rfl, rfl, rfl⟩ := hs
              have hp : p := by
                cases hb : owes o.op (Orc.sv ov) with
                | true => rw [hb] at ho; exact ho
                | false => exact owes_spec hq hb
              have hset : ∀ v : Value, (a.tmps.setIfInBounds d v)[g]? = a.tmps[g]? := fun v => by
                rw [Array.getElem?_setIfInBounds, if_neg hdg]
              by_cases hw : a.tmps[g]? = some (.bool b)
              · have hwant : Region.wanted o (yielded ops a.tmps) = true := by
                  rw [hw] at hy
                  simp [Region.wanted, hgd, hy]
                obtain ⟨v, hv, hrel, _⟩ := qstep_sound hr (gd := some (g, b)) (fun g' b' e => by simp at e; obtain ⟨rfl, rfl⟩ := e; exact hw) hq hp
                refine does_of_exec hwant (.inl ⟨v, w, hv, ?_⟩)
                rw [hdst]
                exact ⟨h, ρ, hr.putSlot d _ _ (hd d hdst) (fun _ => hrel)⟩
              · intro Q K hK
                have hwant : Region.wanted o (yielded ops a.tmps) = false := by
                  simp only [Region.wanted, hgd, hy]
                  split
                  · rename_i b' hb'
                    simp only [hb', Option.some.injEq, Value.bool.injEq] at hw
                    simp [hw]
                  · simp
                rw [if_neg (by simp [hwant]), hdst]
                refine hK _ _ ⟨h, ρ, hr.putSlot d _ _ (hd d hdst) (fun ht => ?_)⟩
                rw [hset] at ht
                exact (hw ht).elim
            · simp at hs
        · simp at hs
    · simp at hs
end
end Go.Sl

/- The rules of the walk. -/
namespace Go.Sl
open Go

theorem run_sound {C : Ctx} {ops : Array Oper} {orcs : List (Nat × Orc)} {Q : Exit → Act → World → Prop} : ∀ (l : List Oper) (i : Nat) (rest : List Oper) (fr : Fr) (L : LL) (a : Act) (w : World) (fr' : Fr) (L' : LL) (obs : List Prop),
    Rel C fr L a w → (∀ o ∈ l, ∀ d, o.dst = some d → d < C.n) → run C.P ops orcs i l fr L = some (fr', L', obs) → AllP obs → (∀ a' w', Rel C fr' L' a' w' → wpList C.P ops Q rest a' w') → wpList C.P ops Q (l ++ rest) a w
  | [], i, rest, fr, L, a, w, fr', L', obs, hr, _, hs, _, hk => by
    simp only [run, Option.some.injEq, Prod.mk.injEq] at hs
    obtain ⟨rfl, rfl, _⟩ := hs
    exact hk a w hr
  | o :: l, i, rest, fr, L, a, w, fr', L', obs, ⟨h, ρ, hr⟩, hd, hs, ho, hk => by
    simp only [run] at hs
    split at hs
    · rename_i fr1 L1 p hstep
      split at hs
      · rename_i fr2 L2 q hrun
        simp only [Option.some.injEq, Prod.mk.injEq] at hs
        obtain ⟨rfl, rfl, rfl⟩ := hs
        have hp : AllP p ∧ AllP q := by
          have mk : ∀ (l : List Prop), (∀ x ∈ l, x) → AllP l := by
            intro l
            induction l with
            | nil => intro _; trivial
            | cons x l ih =>
              intro hx
              cases l with
              | nil => exact hx x (by simp)
              | cons y l => exact ⟨hx x (by simp), ih (fun z hz => hx z (List.mem_cons_of_mem _ hz))⟩
          exact ⟨mk p fun x hx => ho.mem x (List.mem_append_left _ hx), mk q fun x hx => ho.mem x (List.mem_append_right _ hx)⟩
        have hdoes := step_sound hr (hd o (by simp)) hstep hp.1
        rw [List.cons_append]
        refine wpList_step fun K hK => ?_
        exact hdoes Q K fun a' w' hrel => hK a' w' (run_sound l (i + 1) rest fr1 L1 a' w' _ _ _ hrel (fun o' ho' => hd o' (by simp [ho'])) hrun hp.2 hk)
      · simp at hs
    · simp at hs

/-! ### in a round of a range over a function, too -/
def FR (r : Option Nat) : Fence := { Fence.wide with round := r }
def plainOp : Op → Bool | .defer _ => false | _ => true
def plainOps (ops : Array Oper) : Bool := ops.toList.all fun o => plainOp o.op
theorem fr_round {r : Option Nat} : (FR r).round = r := rfl
theorem oper_in {r : Option Nat} {P : Program} {o : Oper} {a : Act} {w : World} {K K' : Act → World → Prop} {Q : Exit → Act → World → Prop} (hp : plainOp o.op = true) (h : o.wp P a w K Q) (hk : ∀ a w, K a w → K' a w) : o.wpIn (FR r) 0 P a w K' Q := by
  have hd : ∀ c, o.op ≠ .defer c := by intro c e; rw [e] at hp; cases hp
  have hs : o.semAt (FR r).round a.eval = execOp a.eval o := by
    rw [fr_round]
    cases r with
    | none => simp [Oper.semAt]
    | some l => exact Oper.semAt_some l _ _ hd
  refine ⟨fun _ _ => trivial, ?_⟩
  rw [hs]
  unfold Oper.wp at h
  generalize (execOp a.eval o).run P w = res at *
  have hdep : ∀ {n : Nat}, (FR r).depth.isSome = true → 1 ≤ n := by intro n e; cases e
  cases res with
  | ok x w' =>
    cases x with
    | value v => exact hk _ _ h
    | skip => exact hk _ _ h
    | defer d => exact hk _ _ h
    | enter f args =>
      refine ⟨hdep, ?_⟩
      have h2 : CallsIn (FR r) 0 P f args w' _ := (callsIn_wide (n := 0)).2 h
      refine h2.mono fun e w'' he => ?_
      cases e with
      | returned v => exact hk _ _ he
      | panicked c => exact he
      | outgrown => exact he
    | row row args =>
      refine ⟨hdep, fun c cs _ => ?_⟩
      obtain ⟨v, w'', hv, hst⟩ := h c cs
      exact ⟨v, w'', hk _ _ hv, stepsIn_wide.2 hst⟩
    | _ => exact h.elim
  | halt hlt w' =>
    cases hlt <;> first | exact h | exact h.elim
theorem list_in {r : Option Nat} {P : Program} {ops : Array Oper} {Q : Exit → Act → World → Prop} (hno : ¬ LetsOut Q) : ∀ (l : List Oper) (a : Act) (w : World), (∀ o ∈ l, plainOp o.op = true) → wpList P ops Q l a w → wpListIn (FR r) 0 P ops Q l a w
  | [], _, _, _, h => h
  | o :: l, a, w, hp, h => by
    unfold wpList at h
    unfold wpListIn
    split
    · rename_i hw
      rw [if_pos hw] at h
      rcases h with h | h
      · exact oper_in (hp o (by simp)) h fun a w hh => list_in hno l a w (fun o ho => hp o (by simp [ho])) hh
      · exact (hno h.2).elim
    · rename_i hw
      rw [if_neg hw] at h
      exact ⟨fun _ _ => trivial, list_in hno l _ _ (fun o ho => hp o (by simp [ho])) h⟩
theorem any_in {r : Option Nat} {P : Program} {ops : Array Oper} {Q : Exit → Act → World → Prop} (hno : ¬ LetsOut Q) (hp : plainOps ops = true) : ∀ (fuel : Nat) (listed : Array Bool) (a : Act) (w : World), wpAny P .any ops Q fuel listed a w → wpAnyIn (FR r) 0 P .any ops Q fuel listed a w
  | 0, _, _, _, h => h
  | fuel + 1, listed, a, w, h => by
    refine ⟨h.1, fun i hi => ?_⟩
    have h1 := h.2 i hi
    unfold wpOp at h1
    unfold wpOpIn
    cases ho : ops[i]? with
    | none => rw [ho] at h1; exact any_in hno hp fuel _ _ _ h1
    | some o =>
      rw [ho] at h1
      simp only at h1 ⊢
      have hpo : plainOp o.op = true := List.all_eq_true.1 hp o (by
        obtain ⟨hlt, rfl⟩ := Array.getElem?_eq_some_iff.1 ho
        exact Array.getElem_mem_toList hlt)
      split
      · rename_i hw
        rw [if_pos hw] at h1
        rcases h1 with h1 | h1
        · exact oper_in hpo h1 fun a w hh => any_in hno hp fuel _ _ _ hh
        · exact (hno h1.2).elim
      · rename_i hw
        rw [if_neg hw] at h1
        exact ⟨fun _ _ => trivial, any_in hno hp fuel _ _ _ h1⟩

/-! ### judgements -/
abbrev Post := Exit → Fr → LL → Prop
@[reducible] def normQ (Q : Post) : Post := fun e fr L => e = .normal ∧ Q e fr L

def lift (C : Ctx) (Q : Post) : Exit → Act → World → Prop := fun e a w => ∃ fr L, Rel C fr L a w ∧ Q e fr L

def W (C : Ctx) (c : Code) (Q : Post) (fr : Fr) (L : LL) : Prop := ∀ a w, Rel C fr L a w → c.wpIn (FR C.rd) 0 C.P (lift C Q) a w

def WO (C : Ctx) (ops : Array Oper) (i : Nat) (Q : Post) (fr : Fr) (L : LL) : Prop := ∀ a w, Rel C fr L a w → wpList C.P ops (lift C (normQ Q)) (ops.toList.drop i) a w
theorem normQ_noOut {C : Ctx} {Q : Post} : ¬ LetsOut (lift C (normQ Q)) := by rintro ⟨a, w, fr, L, _, h, _⟩; cases h
theorem region_list {C : Ctx} {Q : Post} {id : Nat} {ops : Array Oper} {a : Act} {w : World} (hp : plainOps ops = true) (h : wpList C.P ops (lift C (normQ Q)) ops.toList a w) : (Code.region id ops false).wpIn (FR C.rd) 0 C.P (lift C Q) a w :=
  wpIn_mono (wpIn_region_list (list_in normQ_noOut _ _ _ (fun o ho => List.all_eq_true.1 hp o ho) h)) fun _ _ _ ⟨f, l, hr, hq⟩ => ⟨f, l, hr, hq.2⟩
theorem region_any {C : Ctx} {Q : Post} {id : Nat} {ops : Array Oper} {a : Act} {w : World} (hp : plainOps ops = true) (hm : C.P.follows .mixedOrders = true) (h : wpAny C.P .any ops (lift C (normQ Q)) ops.size (Array.replicate ops.size false) a { w with drawn := w.drawn + 1 }) : (Code.region id ops true).wpIn (FR C.rd) 0 C.P (lift C Q) a w :=
  wpIn_mono (wpIn_region_any hm (any_in normQ_noOut hp _ _ _ _ h)) fun _ _ _ ⟨f, l, hr, hq⟩ => ⟨f, l, hr, hq.2⟩

def keep {α : Type} : List Nat → List (Nat × α) → Option (List (Nat × α))
  | [], _ => some []
  | k :: ks, l =>
    match get l k, keep ks l with
    | some v, some r => some ((k, v) :: r)
    | _, _ => none

theorem keep_get {α : Type} : ∀ (ks : List Nat) (l l' : List (Nat × α)), keep ks l = some l' → ∀ t v, get l' t = some v → get l t = some v
  | [], l, l', e, t, v, hv => by simp only [keep, Option.some.injEq] at e; subst e; simp [get] at hv
  | k :: ks, l, l', e, t, v, hv => by
    simp only [keep] at e
    split at e
    · rename_i x r hx hr
      simp only [Option.some.injEq] at e; subst e
      rw [get] at hv
      split at hv
      · rename_i hk; subst hk; simp only [Option.some.injEq] at hv; subst hv; exact hx
      · exact keep_get ks l r hr t v hv
    · simp at e

theorem Rel.keep {C : Ctx} {fr fr' : Fr} {L L' : LL} {a : Act} {w : World} {kF kL : List Nat} (hr : Rel C fr L a w) (h1 : Sl.keep kF fr = some fr') (h2 : Sl.keep kL L = some L') : Rel C fr' L' a w := by
  obtain ⟨h, ρ, hr⟩ := hr
  exact ⟨h, ρ, { hr with
    fr := fun t av ht => hr.fr t av (keep_get _ _ _ h1 t av ht)
    objs := fun s o ho => hr.objs s o (keep_get _ _ _ h2 s o ho)
    apart := fun s s' o o' b hne hs hs' => hr.apart s s' o o' b hne (keep_get _ _ _ h2 s o hs) (keep_get _ _ _ h2 s' o' hs')
    low := fun s o b hs => hr.low s o b (keep_get _ _ _ h2 s o hs) }⟩

/-- weaken -/
def restr (kF kL : List Nat) (fr : Fr) (L : LL) : Option (Fr × LL) :=
  match keep kF fr, keep kL L with
  | some a, some b => some (a, b)
  | _, _ => none

theorem restr_spec {kF kL : List Nat} {fr fr' : Fr} {L L' : LL} (h : restr kF kL fr L = some (fr', L')) : keep kF fr = some fr' ∧ keep kL L = some L' := by
  unfold restr at h
  split at h
  · simp only [Option.some.injEq, Prod.mk.injEq] at h; obtain ⟨rfl, rfl⟩ := h; exact ⟨by assumption, by assumption⟩
  · simp at h

theorem W_weaken {C : Ctx} {c : Code} {Q : Post} {fr fr' : Fr} {L L' : LL} (kF kL : List Nat) (h : restr kF kL fr L = some (fr', L')) (hw : W C c Q fr' L') : W C c Q fr L :=
  fun a w hr => hw a w (hr.keep (restr_spec h).1 (restr_spec h).2)
theorem WO_weaken {C : Ctx} {ops : Array Oper} {i : Nat} {Q : Post} {fr fr' : Fr} {L L' : LL} (kF kL : List Nat) (h : restr kF kL fr L = some (fr', L')) (hw : WO C ops i Q fr' L') : WO C ops i Q fr L :=
  fun a w hr => hw a w (hr.keep (restr_spec h).1 (restr_spec h).2)
theorem W_mono {C : Ctx} {c : Code} {Q Q' : Post} {fr : Fr} {L : LL} (h : ∀ e fr L, Q e fr L → Q' e fr L) (hw : W C c Q fr L) : W C c Q' fr L :=
  fun a w hr => wpIn_mono (hw a w hr) fun _ _ _ ⟨f, l, hr', hq⟩ => ⟨f, l, hr', h _ _ _ hq⟩

/-! ### where we are in the code -/
def child : Nat → Code → Code
  | 0, .seq a _ => a
  | 1, .seq _ b => b
  | 0, .cond _ a _ => a
  | 1, .cond _ _ b => b
  | 0, .block _ b => b
  | 0, .loop b => b
  | 0, .scope b => b
  | 0, .rangeFunc _ _ a _ => a
  | 1, .rangeFunc _ _ _ b => b
  | _, _ => .skip
def nav (B : Code) : List Nat → Code
  | [] => B
  | i :: p => child i (nav B p)

def isSeq : Code → Bool | .seq _ _ => true | _ => false
def isLoop : Code → Bool | .loop _ => true | _ => false
def isSkip : Code → Bool | .skip => true | _ => false
def isRet : Code → Bool | .ret => true | _ => false
def isScope : Code → Bool | .scope _ => true | _ => false
def condOf : Code → Option Operand | .cond o _ _ => some o | _ => none
def blockId : Code → Option Nat | .block i _ => some i | _ => none
def exitId : Code → Option Nat | .exit i => some i | _ => none
def opsOf : Code → Array Oper | .region _ ops _ => ops | _ => #[]
def isReg : Code → Bool | .region _ ops d => !d && plainOps ops | _ => false
def isDraw : Code → Bool | .region _ ops d => d && plainOps ops | _ => false

@[reducible] def seqQ (K : Fr → LL → Prop) (Q : Post) : Post := fun e fr L => match e with
  | .normal => K fr L
  | e => Q e fr L
@[reducible] def blockQ (id : Nat) (Q : Post) : Post := fun e fr L => match e with
  | .exit i => if i = id then Q .normal fr L else Q (.exit i) fr L
  | e => Q e fr L

section
variable {C : Ctx} {B : Code} {p : List Nat} {Q : Post} {fr fr' : Fr} {L L' : LL}

theorem W_seq (h : isSeq (nav B p) = true) (h1 : W C (nav B (0 :: p)) (seqQ (W C (nav B (1 :: p)) Q) Q) fr L) : W C (nav B p) Q fr L := by
  simp only [nav] at h1
  cases hc : nav B p <;> simp only [hc, isSeq, Bool.false_eq_true] at h
  rename_i x y
  simp only [hc, child] at h1
  intro a w hr
  refine wpIn_seq (wpIn_mono (h1 a w hr) ?_)
  rintro e a' w' ⟨f, l, hr', hq⟩
  cases e with
  | normal => exact hq a' w' hr'
  | _ => exact ⟨f, l, hr', hq⟩

theorem W_cond {o : Operand} {b : Bool} (h : condOf (nav B p) = some o) (hv : boolOf (evS fr none o) = some b) (ht : b = true → W C (nav B (0 :: p)) Q fr L) (hf : b = false → W C (nav B (1 :: p)) Q fr L) : W C (nav B p) Q fr L := by
  simp only [nav] at ht hf
  cases hc : nav B p <;> simp only [hc, condOf, Option.some.injEq, reduceCtorEq] at h
  subst h
  simp only [hc, child] at ht hf
  intro a w ⟨hh, ρ, hr⟩
  have he := boolOf_spec (fun z hz => evS_sound hr.fr (fun _ _ e => by cases e) hz) hv
  cases b with
  | true => exact wpIn_cond he (ht rfl a w ⟨hh, ρ, hr⟩)
  | false => exact wpIn_cond he (hf rfl a w ⟨hh, ρ, hr⟩)

theorem W_block {id : Nat} (h : blockId (nav B p) = some id) (h1 : W C (nav B (0 :: p)) (blockQ id Q) fr L) : W C (nav B p) Q fr L := by
  simp only [nav] at h1
  cases hc : nav B p <;> simp only [hc, blockId, Option.some.injEq, reduceCtorEq] at h
  subst h
  simp only [hc, child] at h1
  intro a w hr
  refine wpIn_block (wpIn_mono (h1 a w hr) ?_)
  rintro e a' w' ⟨f, l, hr', hq⟩
  cases e with
  | exit i =>
    simp only [Exit.inBlock]
    simp only [blockQ] at hq
    split
    · rename_i hi; rw [if_pos hi] at hq; exact ⟨f, l, hr', hq⟩
    · rename_i hi; rw [if_neg hi] at hq; exact ⟨f, l, hr', hq⟩
  | _ => exact ⟨f, l, hr', hq⟩

theorem W_skip (kF kL : List Nat) (h : isSkip (nav B p) = true) (hr : restr kF kL fr L = some (fr', L')) (hq : Q .normal fr' L') : W C (nav B p) Q fr L := by
  cases hc : nav B p <;> simp only [hc, isSkip, Bool.false_eq_true] at h
  intro a w hrel
  exact wpIn_skip ⟨fr', L', hrel.keep (restr_spec hr).1 (restr_spec hr).2, hq⟩
theorem W_exit {id : Nat} (kF kL : List Nat) (h : exitId (nav B p) = some id) (hr : restr kF kL fr L = some (fr', L')) (hq : Q (.exit id) fr' L') : W C (nav B p) Q fr L := by
  cases hc : nav B p <;> simp only [hc, exitId, Option.some.injEq, reduceCtorEq] at h
  subst h
  intro a w hrel
  exact wpIn_exit ⟨fr', L', hrel.keep (restr_spec hr).1 (restr_spec hr).2, hq⟩
theorem W_ret (kF kL : List Nat) (h : isRet (nav B p) = true) (hr : restr kF kL fr L = some (fr', L')) (hq : Q .ret fr' L') : W C (nav B p) Q fr L := by
  cases hc : nav B p <;> simp only [hc, isRet, Bool.false_eq_true] at h
  intro a w hrel
  exact wpIn_ret ⟨fr', L', hrel.keep (restr_spec hr).1 (restr_spec hr).2, hq⟩

theorem W_region (h : isReg (nav B p) = true) (h1 : WO C (opsOf (nav B p)) 0 Q fr L) : W C (nav B p) Q fr L := by
  cases hc : nav B p <;> simp only [hc, isReg, Bool.false_eq_true] at h
  rename_i id ops d
  simp only [Bool.and_eq_true, Bool.not_eq_true'] at h
  obtain ⟨h, hpl⟩ := h
  subst h
  simp only [hc, opsOf] at h1
  intro a w hr
  exact region_list hpl (by simpa using h1 a w hr)

def dstOk (n : Nat) (ops : Array Oper) : Bool := ops.toList.all fun o => match o.dst with | some d => decide (d < n) | none => true

def runR (P : Program) (n : Nat) (ops : Array Oper) (i k : Nat) (orcs : List (Nat × Orc)) (kF kL : List Nat) (fr : Fr) (L : LL) : Option (Fr × LL × List Prop) :=
  if dstOk n ops then
    match run P ops orcs i ((ops.toList.drop i).take k) fr L with
    | some (f, l, obs) => match restr kF kL f l with | some (f', l') => some (f', l', obs) | none => none
    | none => none
  else none

theorem runR_spec {P : Program} {n : Nat} {ops : Array Oper} {i k : Nat} {orcs : List (Nat × Orc)} {kF kL : List Nat} {obs : List Prop} (h : runR P n ops i k orcs kF kL fr L = some (fr', L', obs)) :
    (∀ o ∈ (ops.toList.drop i).take k, ∀ d, o.dst = some d → d < n) ∧ ∃ f l, run P ops orcs i ((ops.toList.drop i).take k) fr L = some (f, l, obs) ∧ restr kF kL f l = some (fr', L') := by
  unfold runR at h
  split at h
  · rename_i hd
    refine ⟨fun o ho d hdst => ?_, ?_⟩
    · have := List.all_eq_true.1 hd o (List.mem_of_mem_drop (List.mem_of_mem_take ho))
      rw [hdst] at this
      simpa using this
    · split at h
      · rename_i f l obs' hrun
        split at h
        · rename_i f' l' hre
          simp only [Option.some.injEq, Prod.mk.injEq] at h
          obtain ⟨rfl, rfl, rfl⟩ := h
          exact ⟨f, l, hrun, hre⟩
        · simp at h
      · simp at h
  · simp at h

theorem WO_run {ops : Array Oper} {i j : Nat} {k : Nat} {orcs : List (Nat × Orc)} {kF kL : List Nat} {obs : List Prop} (hj : j = i + k) (h : runR C.P C.n ops i k orcs kF kL fr L = some (fr', L', obs)) (ho : AllP obs)
    (hn : WO C ops j Q fr' L') : WO C ops i Q fr L := by
  obtain ⟨hd, f, l, hrun, hre⟩ := runR_spec h
  intro a w hr
  have hsplit : ops.toList.drop i = (ops.toList.drop i).take k ++ ops.toList.drop j := by
    rw [hj, ← List.drop_drop, List.take_append_drop]
  rw [hsplit]
  exact run_sound _ _ _ _ _ _ _ _ _ _ hr hd hrun ho fun a' w' hr' => hn a' w' (hr'.keep (restr_spec hre).1 (restr_spec hre).2)

theorem WO_end {ops : Array Oper} {i : Nat} (h : ops.toList.length ≤ i) (hq : Q .normal fr L) : WO C ops i Q fr L := by
  intro a w hr
  rw [List.drop_eq_nil_of_le h]
  exact wpList_nil ⟨fr, L, hr, rfl, hq⟩

/-- a whole region -/
theorem W_run (k : Nat) (orcs : List (Nat × Orc)) (kF kL : List Nat) {obs : List Prop} (hreg : isReg (nav B p) = true) (hk : decide ((opsOf (nav B p)).toList.length ≤ k) = true)
    (h : runR C.P C.n (opsOf (nav B p)) 0 k orcs kF kL fr L = some (fr', L', obs)) (ho : AllP obs) (hn : Q .normal fr' L') : W C (nav B p) Q fr L :=
  W_region hreg (WO_run (k := k) (Nat.zero_add k).symm h ho (WO_end (of_decide_eq_true hk) hn))

/-- what is shown of a piece of code, joined to what follows -/
theorem W_cut {Q' : Post} (h : W C (nav B p) Q' fr L) (hq : ∀ e fr L, Q' e fr L → Q e fr L) : W C (nav B p) Q fr L := W_mono hq h

/-! ### loops -/
/-- one round: on to the next, or out -/
@[reducible] def roundQ {X Y : Type} (S : X → Fr × LL) (J : Y → Post) (s : Flow X Y) : Post := fun e fr L =>
  match s with
  | .next x => e = .normal ∧ (fr, L) = S x
  | .done y => e ≠ .normal ∧ J y e fr L

theorem W_loop {X Y : Type} {f : X → Option (Flow X Y)} {S : X → Fr × LL} {J : Y → Post} (hl : isLoop (nav B p) = true)
    (hb : ∀ x s, f x = some s → W C (nav B (0 :: p)) (roundQ S J s) (S x).1 (S x).2) :
    ∀ (n : Nat) (x : X) (y : Y), iter f n x = some y → W C (nav B p) (J y) (S x).1 (S x).2 := by
  simp only [nav] at hb
  cases hc : nav B p <;> simp only [hc, isLoop, Bool.false_eq_true] at hl
  rename_i body
  simp only [hc, child] at hb
  have key : ∀ (n : Nat) (x : X) (y : Y) (a : Act) (w : World), iter f n x = some y → Rel C (S x).1 (S x).2 a w → Code.roundsIn (FR C.rd) 0 C.P body (lift C (J y)) n a w := by
    intro n
    induction n with
    | zero => intro x y a w hi; simp [iter] at hi
    | succ n ih =>
      intro x y a w hi hr
      simp only [iter] at hi
      rw [roundsIn_succ]
      split at hi
      · rename_i x' hx
        refine wpIn_mono (hb x _ hx a w hr) ?_
        rintro e a1 w1 ⟨f1, l1, hrel, he, hs⟩
        subst he
        have hrel' : Rel C (S x').1 (S x').2 a1 w1 := by rw [← hs]; exact hrel
        exact ih x' y a1 w1 hi hrel'
      · rename_i y' hy
        simp only [Option.some.injEq] at hi
        subst hi
        refine wpIn_mono (hb x _ hy a w hr) ?_
        rintro e a1 w1 ⟨f1, l1, hrel, he, hs⟩
        cases e with
        | normal => exact (he rfl).elim
        | _ => exact ⟨f1, l1, hrel, hs⟩
      · simp at hi
  intro n x y hi a w hr
  exact wpIn_loop_rounds n (key n x y a w hi hr)

theorem round_next {X Y : Type} {S : X → Fr × LL} {J : Y → Post} {x : X} (h : (fr, L) = S x) : roundQ S J (.next x) .normal fr L := ⟨rfl, h⟩
theorem round_done {X Y : Type} {S : X → Fr × LL} {J : Y → Post} {y : Y} {e : Exit} (he : e ≠ .normal) (h : J y e fr L) : roundQ S J (.done y) e fr L := ⟨he, h⟩
theorem blockQ_hit {id : Nat} {Q : Post} (h : Q .normal fr L) : blockQ id Q (.exit id) fr L := by
  show (if id = id then Q .normal fr L else Q (.exit id) fr L)
  rw [if_pos rfl]; exact h
theorem blockQ_miss {id i : Nat} {Q : Post} (hn : Nat.beq i id = false) (h : Q (.exit i) fr L) : blockQ id Q (.exit i) fr L := by
  show (if i = id then Q .normal fr L else Q (.exit i) fr L)
  rw [if_neg (Nat.ne_of_beq_eq_false hn)]; exact h
end
end Go.Sl

/- Contracts of functions; calls; data made of objects. -/
namespace Go.Sl
open Go

def Apart (ρ : Nat → Value) (L : LL) : Prop := ∀ s s' o o' b, s ≠ s' → get L s = some o → get L s' = some o' → Blk (ρ s) b → ¬ Blk (ρ s') b

theorem RelH.keepL {C : Ctx} {h : Heap} {ρ : Nat → Value} {fr : Fr} {L L' : LL} {a : Act} {w : World} {kL : List Nat} (hr : RelH C h ρ fr L a w) (h2 : Sl.keep kL L = some L') : RelH C h ρ fr L' a w :=
  { hr with
    objs := fun s o ho => hr.objs s o (keep_get _ _ _ h2 s o ho)
    apart := fun s s' o o' b hne hs hs' => hr.apart s s' o o' b hne (keep_get _ _ _ h2 s o hs) (keep_get _ _ _ h2 s' o' hs')
    low := fun s o b hs => hr.low s o b (keep_get _ _ _ h2 s o hs) }

/-- what a call leaves -/
structure Out (h : Heap) (ρ : Nat → Value) (w : World) (Lin : LL) (h' : Heap) (ρ' : Nat → Value) (w' : World) (Lout : LL) : Prop where
  ext : Ext h h'
  heap : HeapOk h' w'
  fresh : ∀ b, h b = none → b < w.heap.size → h' b = none
  os : w'.os = w.os
  tape : w'.tape = w.tape
  output : w'.output = w.output
  grow : w.heap.size ≤ w'.heap.size
  frame : ∀ b, b < w.heap.size → (∀ s o, get Lin s = some o → ¬ Blk (ρ s) b) → w'.heap[b]? = w.heap[b]?
  objs : ∀ s o, get Lout s = some o → ORel (fun b => w.heap.size ≤ b ∨ ∃ t p, get Lin t = some p ∧ Blk (ρ t) b) h' ρ' w' (ρ' s) o
  apart : Apart ρ' Lout
  pins : ∀ s, nameOk s = false → (∃ o, get Lin s = some o) → ρ' s = ρ s
  low : ∀ s o b, get Lout s = some o → s < 1000 → Blk (ρ' s) b → w.heap.size ≤ b

/-- function f, called with what 'args' say and the objects 'Lin', gives R and leaves the objects 'Lout' -/
def FnC (P : Program) (f : Nat) (args : List AV) (Lin : LL) (R : AV) (Lout : LL) : Prop :=
  ∀ (h : Heap) (ρ : Nat → Value) (w : World) (vs : List Value), HeapOk h w → (∀ s o, get Lin s = some o → ORel (fun _ => True) h ρ w (ρ s) o) → Apart ρ Lin → All2 (VRel h ρ #[]) args vs →
    Calls P f vs.toArray w fun e w' => ∃ v h' ρ', e = .returned v ∧ VRel h' ρ' #[] R v ∧ Out h ρ w Lin h' ρ' w' Lout

def argFr : Nat → List AV → Fr
  | _, [] => []
  | i, a :: as => (i, a) :: argFr (i + 1) as

theorem argFr_get : ∀ (as : List AV) (i t : Nat) (av : AV), get (argFr i as) t = some av → i ≤ t ∧ as[t - i]? = some av
  | [], i, t, av, h => by simp [argFr, get] at h
  | a :: as, i, t, av, h => by
    rw [argFr, get] at h
    split at h
    · rename_i hit; subst hit; simp only [Option.some.injEq] at h; subst h; simp
    · obtain ⟨h1, h2⟩ := argFr_get as (i + 1) t av h
      refine ⟨by omega, ?_⟩
      have : t - i = (t - (i + 1)) + 1 := by omega
      rw [this]; simpa using h2

def resOne (P : Program) (L : LL) (fr : Fr) : ResultVar → Option SV
  | .tmp t => match get fr t with | some (.one x) => some x | _ => none
  | .cell c t => match get fr c with
    | some (.one (.ptr s o)) => match qLoad P L none t (some (.one (.ptr s o))) with | some (.one x, _) => some x | _ => none
    | _ => none
def resSem (tmps : Array Value) : ResultVar → Sem Value
  | .tmp t => pure (tmps.getD t undef)
  | .cell a t => do loadVar t (← asAddr (tmps.getD a undef))
theorem results_eq (fn : Func) (tmps : Array Value) : results fn tmps = (do
    let vs ← fn.results.mapM (resSem tmps)
    pure (if h : vs.size = 1 then vs[0] else .tuple vs)) := by
  unfold results
  congr 1

/-- a result that is held in a variable: one value, or a struct with slices of its own -/
def resCell (P : Program) (L : LL) (fr : Fr) (c t : Nat) : Option AV :=
  match get fr c with
  | some (.one (.ptr s o)) => match qLoad P L none t (some (.one (.ptr s o))) with | some (.one x, _) => some (.one x) | some (.agg x, _) => some (.agg x) | _ => none
  | _ => none
def resAV (P : Program) (L : LL) (rs : List ResultVar) (fr : Fr) : Option AV :=
  match rs with
  | [] => some (.tup [])
  | [.tmp t] => get fr t
  | [.cell c t] => resCell P L fr c t
  | l => (l.mapM (resOne P L fr)).map .tup

@[reducible] def retQ (P : Program) (rs : List ResultVar) (R : AV) (Lout : LL) : Post := fun e fr L => (e = .ret ∨ e = .normal) ∧ resAV P L rs fr = some R ∧ R.sure = true ∧ keep (Lout.map (·.1)) L = some Lout

theorem retQ_mk {P : Program} {rs : List ResultVar} {R : AV} {Lout : LL} {fr : Fr} {L : LL} (h1 : resAV P L rs fr = some R) (h2 : R.sure = true) (h3 : keep (Lout.map (·.1)) L = some Lout) : retQ P rs R Lout .ret fr L := ⟨.inl rfl, h1, h2, h3⟩

structure Base where
  w0 : World
  h0 : Heap
  X : Nat → Prop
  pin : Nat → Option Value
def Base.ctx (K : Base) (P : Program) (n : Nat) : Ctx := ⟨P, n, K.w0, K.h0, K.X, K.pin, none, K.w0.heap.size⟩

theorem VRel.anyTm {h : Heap} {ρ : Nat → Value} {tm tm' : Array Value} {x : AV} {v : Value} (hs : x.sure = true) (e : VRel h ρ tm x v) : VRel h ρ tm' x v := by
  cases x <;> first | exact e | simp [AV.sure] at hs

theorem resAV_run {C : Ctx} {h : Heap} {ρ : Nat → Value} {fn : Func} {fr : Fr} {L : LL} {a : Act} {w : World} {R : AV} (hr : RelH C h ρ fr L a w) (hs : R.sure = true) (hres : resAV C.P L fn.results.toList fr = some R) :
    ∃ v, (results fn a.tmps).run C.P w = .ok v w ∧ VRel h ρ #[] R v := by
  have hppq : ∀ {t s o : Nat} {y : AV} {pp : Prop}, qLoad C.P L none t (some (.one (.ptr s o))) = some (y, pp) → pp := by
    intro t s o y pp hq
    unfold qLoad at hq
    simp only at hq
    split at hq
    · split at hq
      · obtain ⟨_, _, he⟩ := Option.map_eq_some_iff.1 hq
        simp only [Prod.mk.injEq] at he
        rw [← he.2]; trivial
      · cases hq
    · split at hq
      · obtain ⟨_, _, he⟩ := Option.map_eq_some_iff.1 hq
        simp only [Prod.mk.injEq] at he
        rw [← he.2]; trivial
      · split at hq
        · simp only [Option.some.injEq, Prod.mk.injEq] at hq
          rw [← hq.2]; trivial
        · cases hq
      · cases hq
    · cases hq
  have cell : ∀ {c t s o : Nat} {y : AV} {pp : Prop}, get fr c = some (.one (.ptr s o)) → qLoad C.P L none t (some (.one (.ptr s o))) = some (y, pp) → ∃ v, (resSem a.tmps (.cell c t)).run C.P w = .ok v w ∧ VRel h ρ a.tmps y v := by
    intro c t s o y pp hy hq
    have hv := (hr.fr c _ hy).2
    obtain ⟨b, hb, hval⟩ := hv
    have hgood : Good h ρ a.tmps (some (.one (.ptr s o))) (.pointer (some ⟨b, o, none⟩)) := by
      intro z hz
      obtain rfl := Option.some.inj hz
      exact ⟨⟨b, hb, rfl⟩, rfl⟩
    obtain ⟨v, hrun, hrel, _⟩ := qLoad_sound (P := C.P) (own := C.own) (w := w) hr.heap hgood hr.objs hq (hppq hq)
    refine ⟨v, ?_, hrel⟩
    have hval2 : a.tmps.getD c undef = .pointer (some ⟨b, o, none⟩) := hval
    simp only [resSem, hval2, asAddr, Sem.run_bind, Sem.run_pure, Result.andThen_ok]
    simpa [Instr.loadAt, Instr.sureAddr] using hrun
  have each : ∀ (r : ResultVar) (x : SV), resOne C.P L fr r = some x → ∃ v, (resSem a.tmps r).run C.P w = .ok v w ∧ SRel h ρ x v := by
    intro r x hx
    cases r with
    | tmp t =>
      simp only [resOne] at hx
      split at hx
      · rename_i y hy
        simp only [Option.some.injEq] at hx; subst hx
        exact ⟨a.tmps.getD t undef, by simp [resSem], (hr.fr t _ hy).2⟩
      · cases hx
    | cell c t =>
      simp only [resOne] at hx
      split at hx
      · rename_i s o hy
        split at hx
        · rename_i y pp hq
          simp only [Option.some.injEq] at hx; subst hx
          exact cell hy hq
        · cases hx
      · cases hx
  have one : ∀ (rs : List ResultVar) (xs : List SV), rs.mapM (resOne C.P L fr) = some xs → ∃ vs : List Value, (rs.mapM (resSem a.tmps)).run C.P w = .ok vs w ∧ All2 (SRel h ρ) xs vs := by
    intro rs
    induction rs with
    | nil => intro xs e; simp at e; subst e; exact ⟨[], by simp, .nil⟩
    | cons r rs ih =>
      intro xs e
      simp only [List.mapM_cons, Option.bind_eq_bind, Option.bind_eq_some_iff] at e
      obtain ⟨x, hx, ys, hys, he⟩ := e
      simp only [Option.pure_def, Option.some.injEq] at he
      subst he
      obtain ⟨vs, hvs, hall⟩ := ih ys hys
      obtain ⟨v, hv, hrel⟩ := each r x hx
      refine ⟨v :: vs, ?_, .cons hrel hall⟩
      simp only [List.mapM_cons, Sem.run_bind, Sem.run_pure, Result.andThen_ok, hv, hvs]
  have hmk : ∀ vs : List Value, (fn.results.toList.mapM (resSem a.tmps)).run C.P w = .ok vs w → (results fn a.tmps).run C.P w = .ok (if h : vs.length = 1 then vs[0] else .tuple vs.toArray) w := by
    intro vs hvs
    rw [results_eq]
    simp only [Sem.run_bind, Array.mapM_eq_mapM_toList, Sem.run_map, hvs, Result.andThen_ok, Sem.run_pure, List.size_toArray]
    split
    · rename_i h1; simp
    · rfl
  unfold resAV at hres
  split at hres
  · rename_i hl
    simp only [Option.some.injEq] at hres; subst hres
    refine ⟨.tuple #[], ?_, ⟨[], rfl, .nil⟩⟩
    have := hmk [] (by rw [hl]; simp)
    simpa using this
  · rename_i t hl
    refine ⟨a.tmps.getD t undef, ?_, (hr.fr t R hres).2.anyTm hs⟩
    have := hmk [a.tmps.getD t undef] (by rw [hl]; simp [resSem])
    simpa using this
  · rename_i c t hl
    have hcl : ∃ v, (resSem a.tmps (.cell c t)).run C.P w = .ok v w ∧ VRel h ρ #[] R v := by
      unfold resCell at hres
      split at hres
      · rename_i s o hy
        split at hres
        · rename_i y pp hq
          simp only [Option.some.injEq] at hres; subst hres
          obtain ⟨v, h1, h2⟩ := cell hy hq
          exact ⟨v, h1, h2.anyTm hs⟩
        · rename_i y pp hq
          simp only [Option.some.injEq] at hres; subst hres
          obtain ⟨v, h1, h2⟩ := cell hy hq
          exact ⟨v, h1, h2.anyTm hs⟩
        · cases hres
      · cases hres
    obtain ⟨v, hv, hrel⟩ := hcl
    refine ⟨v, ?_, hrel⟩
    have := hmk [v] (by rw [hl]; simp only [List.mapM_cons, List.mapM_nil, Sem.run_bind, hv, Result.andThen_ok, Sem.run_pure])
    simpa using this
  · rename_i h1 h2 h3
    obtain ⟨xs, hxs, rfl⟩ := Option.map_eq_some_iff.1 hres
    obtain ⟨vs, hvs, hall⟩ := one _ _ hxs
    refine ⟨.tuple vs.toArray, ?_, ⟨vs, rfl, hall⟩⟩
    have hlen : vs.length = fn.results.toList.length := by
      rw [← forall2_len hall]
      exact (mapM_get _ _ hxs).1.symm
    have hne : vs.length ≠ 1 := by
      rw [hlen]
      intro hl1
      match hq : fn.results.toList, hl1 with
      | [.tmp t], _ => exact h2 t hq
      | [.cell c t], _ => exact h3 c t hq
    have := hmk vs hvs
    rw [dif_neg hne] at this
    exact this

/-- a block that is no cells and bears no name is turned -/
theorem RelH.turn {C : Ctx} {h : Heap} {ρ : Nat → Value} {fr : Fr} {L : LL} {a : Act} {w : World} {D : Nat} (hr : RelH C h ρ fr L a w) (hc : ∀ cs, h D ≠ some cs) (hn : ∀ s o, get L s = some o → ¬ Blk (ρ s) D) (hlo : C.w0.heap.size ≤ D) {o' : Obj} {ds : List Deferred}
    (hd : DOk C (w.putObj D o') ds) : RelH C h ρ fr L { a with defers := ds } (w.putObj D o') :=
  { hr with
    defers := hd
    heap := fun b cs hb => by
      obtain ⟨cur, e, fz, hq, hp⟩ := hr.heap b cs hb
      refine ⟨cur, e, fz, ?_, hp⟩
      rw [World.putObj_heap_other (fun e => by subst e; exact hc _ hb)]
      exact hq
    objs := fun s o hs => (hr.objs s o hs).world fun b hb => World.putObj_heap_other fun e => by subst e; exact hn s o hs hb
    os := hr.os
    tape := hr.tape
    output := hr.output
    grow := by have := hr.grow; simpa [World.putObj] using this
    frame := fun b hb hX => by rw [World.putObj_heap_other (by omega)]; exact hr.frame b hb hX }
/-- the block of a mark is shut -/
theorem RelH.setD {C : Ctx} {h : Heap} {ρ : Nat → Value} {fr : Fr} {L : LL} {a : Act} {w : World} {D : Nat} {Ds : List Nat} (hr : RelH C h ρ fr L a w) (hlo : C.w0.heap.size ≤ C.dlo) (hnd : (D :: Ds).Nodup) (hD : ∀ E, E ∈ D :: Ds → C.dlo ≤ E ∧ w.heap[E]? = some (Obj.deferred (some []))) {o' : Obj} :
    RelH C h ρ fr L { a with defers := Ds.map dMark } (w.putObj D o') := by
  have h0 := hD D (by simp)
  refine hr.turn (fun cs hcs => ?_) (fun s o hs hb => (hr.objs s o hs).notDef hb _ h0.2) (Nat.le_trans hlo h0.1) ⟨Ds, rfl, (List.nodup_cons.1 hnd).2, fun E hE => ?_⟩
  · obtain ⟨cur, e, fz, hq, _⟩ := hr.heap D cs hcs
    rw [h0.2] at hq; cases hq
  · have h1 := hD E (by simp [hE])
    refine ⟨h1.1, ?_⟩
    rw [World.putObj_heap_other (fun e => by subst e; exact (List.nodup_cons.1 hnd).1 hE)]
    exact h1.2
/-- the base of a call: its world, its typed heap, the blocks handed, the places of the variables handed -/
def baseOf (h : Heap) (ρ : Nat → Value) (w : World) (Lin : LL) : Base := ⟨w, h, fun b => ∃ s o, get Lin s = some o ∧ Blk (ρ s) b, fun s => if nameOk s then none else (match get Lin s with | some _ => some (ρ s) | none => none)⟩
theorem calls_of_WK {P : Program} {f : Nat} {fn : Func} {B : Code} {args : List AV} {Lin : LL} {R : AV} {Lout : LL} {n : Nat} (hf : P.funcs[f]? = some fn) (hb : fn.body = some B) (hn : fn.ntmps = n)
    (hlen' : Nat.ble args.length n = true) (hsure : args.all (·.sure) = true) (hnm : Lin.all (fun p => decide (1000 ≤ p.1)) = true)
    (h : Heap) (ρ : Nat → Value) (w : World) (vs : List Value) (hheap : HeapOk h w) (hobjs : ∀ s o, get Lin s = some o → ORel (fun _ => True) h ρ w (ρ s) o) (hap : Apart ρ Lin) (hargs : All2 (VRel h ρ #[]) args vs)
    (hW : W ((baseOf h ρ w Lin).ctx P n) (nav B []) (retQ P fn.results.toList R Lout) (argFr 0 args) Lin) :
    Calls P f vs.toArray w fun e w' => ∃ v h' ρ', e = .returned v ∧ VRel h' ρ' #[] R v ∧ Out h ρ w Lin h' ρ' w' Lout := by
  have hlen : args.length ≤ n := Nat.le_of_ble_eq_true hlen'
  refine (callsIn_wide (n := 0)).1 (callsIn_of_wp_marks hf hb trivial (wpIn_wide.2 ?_))
  let K : Base := baseOf h ρ w Lin
  have hvl : args.length = vs.length := forall2_len hargs
  have hsize : (vs.toArray ++ Array.replicate (fn.ntmps - vs.toArray.size) undef).size = n := by
    simp [hn]; omega
  have hinit : RelH (K.ctx P n) h ρ (argFr 0 args) Lin { tmps := vs.toArray ++ Array.replicate (fn.ntmps - vs.toArray.size) undef, defers := [] } w := by
    refine ⟨hsize, DOk.nil, ?_, hheap, ?_, hap, Ext.refl h, fun _ e _ => e, rfl, rfl, rfl, Nat.le_refl _, fun _ _ _ => rfl, ?_, ?_, ?_, ?_⟩
    · intro t av ht
      obtain ⟨_, h2⟩ := argFr_get args 0 t av ht
      simp only [Nat.sub_zero] at h2
      have hlt := (List.getElem?_eq_some_iff.1 h2).1
      refine ⟨by show t < n; omega, ?_⟩
      obtain ⟨v, hv, hrel⟩ := forall2_get hargs t av h2
      have : (vs.toArray ++ Array.replicate (fn.ntmps - vs.toArray.size) undef).getD t undef = v := by
        rw [Array.getD_eq_getD_getElem?, Array.getElem?_append_left (by simp; omega)]
        simp [hv]
      rw [this]
      exact hrel.anyTm (List.all_eq_true.1 hsure av (List.mem_of_getElem? h2))
    · intro s o hs
      have := hobjs s o hs
      refine ORel.own_mono this fun b hb => .inr ⟨s, o, hs, hb⟩
    · rintro b ⟨s, o, hs, hb⟩
      exact ((hobjs s o hs).block hb).2.2
    · intro s v hv
      simp only [K, baseOf, Base.ctx] at hv
      split at hv
      · cases hv
      · split at hv
        · exact Option.some.inj hv
        · cases hv
    · intro s hs
      simp [K, baseOf, Base.ctx, hs]
    · intro s o b hs hlt _
      have : (s, o) ∈ Lin := by
        clear hW hobjs hap
        induction Lin with
        | nil => simp [get] at hs
        | cons p L ih =>
          obtain ⟨k, v⟩ := p
          rw [get] at hs
          split at hs
          · rename_i hk; subst hk; simp only [Option.some.injEq] at hs; subst hs; simp
          · exact List.mem_cons_of_mem _ (ih (by simp only [List.all_cons, Bool.and_eq_true] at hnm; exact hnm.2) hs)
      have := List.all_eq_true.1 hnm _ this
      simp at this
      omega
  refine wp_mono ((wpIn_wide (n := 0)).1 (hW _ w ⟨h, ρ, hinit⟩)) ?_
  rintro e a' w' ⟨fr, L0, hr0, hexit, hres, hsu, hkeep⟩
  obtain ⟨h', ρ', hr1⟩ := hr0
  have fin : ∀ (a1 : Act) (w1 : World), a1.tmps = a'.tmps → RelH (K.ctx P n) h' ρ' fr L0 a1 w1 → ∃ v, (results fn a'.tmps).run P w1 = .ok v w1 ∧ ∃ v' h1 ρ1, Ending.returned v = .returned v' ∧ VRel h1 ρ1 #[] R v' ∧ Out h ρ w Lin h1 ρ1 w1 Lout := by
    intro a1 w1 ht hr1
    obtain ⟨v, hv, hrel⟩ := resAV_run hr1 hsu hres
    have hr : RelH (K.ctx P n) h' ρ' fr Lout a1 w1 := hr1.keepL hkeep
    have out : Out h ρ w Lin h' ρ' w1 Lout := by
      refine ⟨hr.ext, hr.heap, hr.fresh, hr.os, hr.tape, hr.output, hr.grow, ?_, hr.objs, hr.apart, ?_, hr.low⟩
      · intro b hb hno
        exact hr.frame b hb (fun ⟨s, o, hs, hb'⟩ => hno s o hs hb')
      · rintro s hs ⟨o, ho⟩
        exact hr.pin s (ρ s) (by simp [K, baseOf, Base.ctx, hs, ho])
    exact ⟨v, by rw [← ht]; exact hv, v, h', ρ', rfl, hrel, out⟩
  have leave : LeavesInM Fence.wide 0 P fn a'.tmps (fun e w' => ∃ v h' ρ', e = .returned v ∧ VRel h' ρ' #[] R v ∧ Out h ρ w Lin h' ρ' w' Lout) a'.defers .returning w' := by
    have go : ∀ (Ds : List Nat) (a1 : Act) (w1 : World), a1.tmps = a'.tmps → RelH (K.ctx P n) h' ρ' fr L0 a1 w1 → Ds.Nodup → (∀ D, D ∈ Ds → (K.ctx P n).dlo ≤ D ∧ w1.heap[D]? = some (Obj.deferred (some []))) →
        LeavesInM Fence.wide 0 P fn a'.tmps (fun e w' => ∃ v h' ρ', e = .returned v ∧ VRel h' ρ' #[] R v ∧ Out h ρ w Lin h' ρ' w' Lout) (Ds.map dMark) .returning w1 := by
      intro Ds
      induction Ds with
      | nil => intro a1 w1 ht hr1 _ _; exact fin a1 w1 ht hr1
      | cons D Ds ih =>
        intro a1 w1 ht hr1 hnd hD
        have hr2 := hr1.setD (o' := .deferred none) (Nat.le_refl _) hnd hD
        refine ⟨by simp, .inl ⟨D, _, rfl, run_takeDeferred (hD D (by simp)).2, ih { a1 with defers := Ds.map dMark } _ ht hr2 (List.nodup_cons.1 hnd).2 fun E hE => ?_⟩⟩
        have h1 := hD E (by simp [hE])
        exact ⟨h1.1, by rw [World.putObj_heap_other (fun e => by subst e; exact (List.nodup_cons.1 hnd).1 hE)]; exact h1.2⟩
    obtain ⟨Ds, hd, hnd, hD⟩ := hr1.defers
    rw [hd]
    exact go Ds a' w' rfl hr1 hnd hD
  rcases hexit with rfl | rfl
  · exact leave
  · exact leave

theorem fnC_of_W {P : Program} {f : Nat} {fn : Func} {B : Code} {args : List AV} {Lin : LL} {R : AV} {Lout : LL} {n : Nat} (hf : P.funcs[f]? = some fn) (hb : fn.body = some B) (hn : fn.ntmps = n)
    (hlen' : Nat.ble args.length n = true) (hsure : args.all (·.sure) = true) (hnm : Lin.all (fun p => decide (1000 ≤ p.1)) = true)
    (hW : ∀ K : Base, W (K.ctx P n) (nav B []) (retQ P fn.results.toList R Lout) (argFr 0 args) Lin) : FnC P f args Lin R Lout :=
  fun h ρ w vs hheap hobjs hap hargs => calls_of_WK hf hb hn hlen' hsure hnm h ρ w vs hheap hobjs hap hargs (hW _)

/-! short words -/
abbrev tI : Ty := .int .i64
abbrev aI (x : Int) : AV := .one (.dat (.int .i64) x)
abbrev aB (x : Bool) : AV := .one (.dat .bool x)
abbrev aD (t : Ty) (x : t.den) : AV := .one (.dat t x)
abbrev bodyOf (f : Func) : Code := f.body.getD .skip
end Go.Sl

/- Calls by contract; objects made data; values made data. -/
namespace Go.Sl
open Go

def isFn (P : Program) (f : Nat) : Bool := (P.funcs[f]?).any fun fn => fn.body.isSome && fn.name != "runtime.NumGoroutine"

/-- the function that is called, and what it is called with -/
def callOf (fr : Fr) (gd : Option (Nat × Bool)) (op : Op) : Option (Nat × List AV) :=
  match op with
  | .call c =>
    match c.callee with
    | .value x =>
      match evS fr gd x with
      | some (.one (.fn f caps)) => (c.args.toList.mapM (evS fr gd)).map fun as => (f, as ++ caps.map fun p => .one (.ptr p.1 p.2))
      | _ => none
    | _ => none
  | _ => none

theorem run_callFunc {P : Program} {f : Nat} (h : isFn P f = true) (args : Array Value) (w : World) : (callFunc f args).run P w = .ok (.enter f args) w := by
  unfold isFn at h
  cases hf : P.funcs[f]? with
  | none => simp [hf] at h
  | some fn =>
    simp [hf] at h
    obtain ⟨h1, h2⟩ := h
    cases hb : fn.body with
    | none => simp [hb] at h1
    | some b => simp [callFunc, hf, h2, hb]

section
variable {C : Ctx} {h : Heap} {ρ : Nat → Value} {fr : Fr} {L : LL} {a : Act} {w : World}

theorem all2_append {α β : Type} {R : α → β → Prop} {l l' : List α} {m m' : List β} (h : All2 R l m) (h' : All2 R l' m') : All2 R (l ++ l') (m ++ m') := by
  induction h with
  | nil => exact h'
  | cons x _ ih => exact .cons x ih

theorem all2_caps {l : List (Nat × Nat)} {m : List Value} (hall : All2 (Refs ρ) l m) : All2 (VRel h ρ #[]) (l.map fun p => AV.one (.ptr p.1 p.2)) m := by
  induction hall with
  | nil => exact .nil
  | cons h1 _ ih => exact .cons h1 ih

theorem callOf_spec (hr : RelH C h ρ fr L a w) {gd : Option (Nat × Bool)} (hg : ∀ g b, gd = some (g, b) → a.tmps[g]? = some (.bool b)) {o : Oper} {f : Nat} {as : List AV} (hc : callOf fr gd o.op = some (f, as)) (hfn : isFn C.P f = true) :
    ∃ vs : List Value, (execOp a.eval o).run C.P w = .ok (.enter f vs.toArray) w ∧ All2 (VRel h ρ #[]) as vs := by
  unfold callOf at hc
  split at hc
  · rename_i c hop
    split at hc
    · rename_i x hcal
      split at hc
      · rename_i f' caps hx
        obtain ⟨as', has, he⟩ := Option.map_eq_some_iff.1 hc
        simp only [Prod.mk.injEq] at he
        obtain ⟨rfl, rfl⟩ := he
        obtain ⟨cs, hcs, hall⟩ := (evS_sound hr.fr hg hx).1
        have hall' : All2 (VRel h ρ #[]) as' (c.args.toList.map a.eval) := by
          refine all2_map_right (mapM_all2 (R := fun x (o : Operand) => VRel h ρ #[] x (a.eval o)) (fun o x hx => ?_) _ _ has)
          obtain ⟨h1, h2⟩ := evS_sound hr.fr hg hx
          exact h1.anyTm h2
        refine ⟨c.args.toList.map a.eval ++ cs, ?_, all2_append hall' ?_⟩
        · simp only [execOp, hop, resolve, hcal, hcs, Deferred.ofValue, Sem.run_bind, Sem.run_pure, Result.andThen_ok, invoke]
          rw [run_callFunc hfn]
          congr 2
          apply Array.ext'
          simp
        · exact all2_caps hall
      · simp at hc
    · simp at hc
  · simp at hc

/-- the world behind a call that was handed no object -/
theorem RelH.extend (hr : RelH C h ρ fr L a w) {h' : Heap} {ρ' : Nat → Value} {w' : World} {Lout : LL} (ho : Out h ρ w [] h' ρ' w' Lout) : RelH C h' ρ fr L a w' where
  size := hr.size
  defers := hr.defers.keep fun D hD => ho.frame D (Array.getElem?_eq_some_iff.1 hD).1 (fun s o hs => by simp [get] at hs)
  fr := fun t av ht => ⟨(hr.fr t av ht).1, (hr.fr t av ht).2.mono ho.ext⟩
  heap := ho.heap
  objs := fun s o hs => by
    have hb := hr.objs s o hs
    have hw : ∀ b, Blk (ρ s) b → w'.heap[b]? = w.heap[b]? := fun b hbl => ho.frame b (hb.block hbl).2.2 (fun s o hs => by simp [get] at hs)
    have hn : ∀ b, Blk (ρ s) b → h' b = none := fun b hbl => ho.fresh b (hb.block hbl).2.1 (hb.block hbl).2.2
    exact hb.toHeap ho.ext hw hn
  apart := hr.apart
  ext := hr.ext.trans ho.ext
  fresh := fun b h0 hb => ho.fresh b (hr.fresh b h0 hb) (Nat.lt_of_lt_of_le hb hr.grow)
  os := ho.os.trans hr.os
  tape := ho.tape.trans hr.tape
  output := ho.output.trans hr.output
  grow := Nat.le_trans hr.grow ho.grow
  frame := fun b hb hX => by
    rw [ho.frame b (Nat.lt_of_lt_of_le hb hr.grow) (fun s o hs => by simp [get] at hs)]
    exact hr.frame b hb hX
  xs := hr.xs
  pin := hr.pin
  pinlo := hr.pinlo
  low := hr.low

/-- names given anew in a value -/
def SV.ren (σ : Nat → Nat) : SV → SV
  | .ptr s o => .ptr (σ s) o
  | .slc s => .slc (σ s)
  | .eptr s z i o => .eptr (σ s) z i o
  | .sub s z a b => .sub (σ s) z a b
  | .rhd s i => .rhd (σ s) i
  | .fn f caps => .fn f (caps.map fun p => (σ p.1, p.2))
  | x => x
def AV.ren (σ : Nat → Nat) : AV → AV
  | .one x => .one (x.ren σ)
  | .agg cs => .agg (cs.map (SV.ren σ))
  | .tup cs => .tup (cs.map (SV.ren σ))
  | .mb g b x => .mb g b (x.ren σ)

def SV.data : SV → Bool
  | .ptr _ _ | .slc _ | .eptr _ _ _ _ | .sub _ _ _ _ | .rhd _ _ | .any => false
  | .fn _ caps => caps.isEmpty
  | _ => true

theorem SRel.ofData {h : Heap} {ρ ρ' : Nat → Value} {x : SV} {v : Value} (hd : x.data = true) (e : SRel h ρ x v) : SRel h ρ' x v := by
  cases x <;> simp only [SV.data] at hd <;> first
    | exact e
    | (simp at hd; done)
    | (obtain ⟨cs, rfl, hall⟩ := e
       rename_i caps
       cases caps with
       | nil => cases hall; exact ⟨[], rfl, .nil⟩
       | cons _ _ => simp at hd)

/-- only names of a set -/
def SV.within (s : Nat) : SV → Bool
  | .slc t => t == s
  | x => x.data
def AV.within (s : Nat) : AV → Bool
  | .one x => x.within s
  | .tup xs => xs.all (·.within s)
  | _ => false

theorem SRel.within {h : Heap} {ρ ρ' : Nat → Value} {x : SV} {v : Value} {s t : Nat} (hd : x.within s = true) (e : SRel h ρ x v) (hn : ρ' t = ρ s) : SRel h ρ' (x.ren fun _ => t) v := by
  cases x <;> simp only [SV.within] at hd
  case slc r =>
    have : r = s := by simpa using hd
    subst this
    exact ⟨by rw [hn]; exact e.1, e.2⟩
  case fn f caps =>
    simp only [SV.data, List.isEmpty_iff] at hd
    subst hd
    exact SRel.ofData (x := .fn f []) rfl e
  all_goals first
    | exact SRel.ofData hd e
    | simp [SV.data] at hd

theorem all2_within {h : Heap} {ρ ρ' : Nat → Value} {s t : Nat} {xs : List SV} {vs : List Value} (hd : xs.all (·.within s) = true) (hall : All2 (SRel h ρ) xs vs) (hn : ρ' t = ρ s) :
    All2 (SRel h ρ') (xs.map (SV.ren fun _ => t)) vs := by
  induction hall with
  | nil => exact .nil
  | cons h1 _ ih =>
    simp only [List.all_cons, Bool.and_eq_true] at hd
    exact .cons (SRel.within hd.1 h1 hn) (ih hd.2)
theorem all2_ofData {h : Heap} {ρ ρ' : Nat → Value} {xs : List SV} {vs : List Value} (hd : xs.all (·.data) = true) (hall : All2 (SRel h ρ) xs vs) : All2 (SRel h ρ') xs vs := by
  induction hall with
  | nil => exact .nil
  | cons h1 _ ih =>
    simp only [List.all_cons, Bool.and_eq_true] at hd
    exact .cons (SRel.ofData hd.1 h1) (ih hd.2)
def AV.data : AV → Bool
  | .one x => x.data
  | .tup xs => xs.all (·.data)
  | _ => false

theorem VRel.within {h : Heap} {ρ ρ' : Nat → Value} {tm tm' : Array Value} {x : AV} {v : Value} {s t : Nat} (hd : x.within s = true) (e : VRel h ρ tm x v) (hn : ρ' t = ρ s) : VRel h ρ' tm' (x.ren fun _ => t) v := by
  cases x <;> simp only [AV.within, Bool.false_eq_true] at hd
  · exact SRel.within hd e hn
  · obtain ⟨vs, rfl, hall⟩ := e
    exact ⟨vs, rfl, all2_within hd hall hn⟩

def LObj.plain : LObj → Bool
  | .cells _ => false
  | .rows _ _ _ hs => hs.isEmpty
  | _ => true

theorem ORel.plain {own : Nat → Prop} {h : Heap} {ρ ρ' : Nat → Value} {w : World} {q : Value} {o : LObj} (hp : o.plain = true) (e : ORel own h ρ w q o) : ORel own h ρ' w q o := by
  cases o
  case rows d t xs hs =>
    simp only [LObj.plain, List.isEmpty_iff] at hp
    subst hp
    obtain ⟨hd, heads, F, h1, h2, h3, h4⟩ := e
    refine ⟨hd, heads, F, h1, h2, h3, ?_⟩
    rcases h4 with h4 | ⟨b, cap, cur, el, Fs, e1, e2, e3, e4, e5, e6, e7, e8, e9⟩
    · exact .inl h4
    · exact .inr ⟨b, cap, cur, el, Fs, e1, e2, e3, e4, e5, e6, e7, e8, e9⟩
  all_goals first | exact e | simp [LObj.plain] at hp

/-- does the guard let the operation by? -/
def guardIs (ops : Array Oper) (fr : Fr) (o : Oper) : Option (Option (Nat × Bool) × Prop) :=
  match o.guard with
  | none => some (none, True)
  | some (j, b) =>
    match guardSlot ops j with
    | some g =>
      match get fr g with
      | some (.one (.dat .bool v)) => some (some (g, b), v = b)
      | _ => none
    | none => none

theorem guardIs_spec (hr : RelH C h ρ fr L a w) {ops : Array Oper} {o : Oper} {gd : Option (Nat × Bool)} {p : Prop} (hg : guardIs ops fr o = some (gd, p)) (hp : p) :
    Region.wanted o (yielded ops a.tmps) = true ∧ ∀ g b, gd = some (g, b) → a.tmps[g]? = some (.bool b) := by
  unfold guardIs at hg
  split at hg
  · rename_i hgd
    simp only [Option.some.injEq, Prod.mk.injEq] at hg; obtain ⟨rfl, rfl⟩ := hg
    exact ⟨by simp [Region.wanted, hgd], fun g b e => by cases e⟩
  · rename_i j b hgd
    split at hg
    · rename_i g hgs
      split at hg
      · rename_i v hv
        simp only [Option.some.injEq, Prod.mk.injEq] at hg; obtain ⟨rfl, rfl⟩ := hg
        subst hp
        have htm := slot_bool hr hv
        refine ⟨?_, fun g' b' e => by simp only [Option.some.injEq, Prod.mk.injEq] at e; obtain ⟨rfl, rfl⟩ := e; exact htm⟩
        have hy : yielded ops a.tmps j = some v := by
          unfold guardSlot at hgs
          unfold yielded
          rw [hgs]; simp [htm]
        simp [Region.wanted, hgd, hy]
      · simp at hg
    · simp at hg

def dstAt (ops : Array Oper) (i : Nat) : Option Nat := (ops[i]?).bind (·.dst)

/-- arguments handed on as data -/
def coer : List (Option Ty) → List AV → Option (List AV)
  | [], [] => some []
  | none :: us, a :: as => (coer us as).map (a :: ·)
  | some u :: us, a :: as =>
    match toDat u a, coer us as with
    | some d, some r => some (.one (.dat u d) :: r)
    | _, _ => none
  | _, _ => none

theorem coer_spec {h : Heap} {ρ : Nat → Value} {tm : Array Value} (us : List (Option Ty)) (as as' : List AV) (vs : List Value) (e : coer us as = some as') (ha : All2 (VRel h ρ tm) as vs) : All2 (VRel h ρ tm) as' vs := by
  induction ha generalizing us as' with
  | nil =>
    cases us with
    | nil => simp only [coer, Option.some.injEq] at e; subst e; exact .nil
    | cons u us => cases u <;> simp [coer] at e
  | @cons a v as vs h1 ht ih =>
    cases us with
    | nil => simp [coer] at e
    | cons u us =>
      cases u with
      | none =>
        obtain ⟨r, hr, rfl⟩ := Option.map_eq_some_iff.1 e
        exact .cons h1 (ih us r hr)
      | some u =>
        simp only [coer] at e
        split at e
        · rename_i d r hd hr
          simp only [Option.some.injEq] at e; subst e
          exact .cons (toDat_sound h1 hd) (ih us r hr)
        · simp at e

/-- what is read off at a call -/
structure CallAt (C : Ctx) (ops : Array Oper) (i : Nat) (fr : Fr) (us : List (Option Ty)) (f : Nat) (as : List AV) (d : Nat) (p : Prop) : Prop where
  ok : (match ops[i]? with
    | some o => (match guardIs ops fr o with
      | some (gd, q) => (callOf fr gd o.op).bind fun r => (coer us r.2).bind fun as => o.dst.map fun d => (r.1, as, d, q)
      | none => none)
    | none => none) = some (f, as, d, p)
  fn : isFn C.P f = true
  lt : decide (d < C.n) = true

theorem WO_call0 {ops : Array Oper} {i j : Nat} {Q : Post} {us : List (Option Ty)} {f : Nat} {as : List AV} {d : Nat} {p : Prop} {R : AV} (hj : j = i + 1) (hc : CallAt C ops i fr us f as d p) (hp : p) (hF : FnC C.P f as [] R [])
    (hR : R.data = true) (hn : WO C ops j Q (putF fr d R) L) : WO C ops i Q fr L := by
  intro a w ⟨h, ρ, hr⟩
  have hok := hc.ok
  split at hok
  · rename_i o ho
    split at hok
    · rename_i gd q hg
      obtain ⟨⟨f', as0⟩, hcall, hd⟩ := Option.bind_eq_some_iff.1 hok
      obtain ⟨as', hco, hd⟩ := Option.bind_eq_some_iff.1 hd
      obtain ⟨d', hdst, he⟩ := Option.map_eq_some_iff.1 hd
      simp only [Prod.mk.injEq] at he
      obtain ⟨rfl, rfl, rfl, rfl⟩ := he
      obtain ⟨hw, hgd⟩ := guardIs_spec hr hg hp
      obtain ⟨vs, hrun, hall0⟩ := callOf_spec hr hgd hcall hc.fn
      have hall := coer_spec _ _ _ _ hco hall0
      have hlen : i < ops.toList.length := by
        have := (Array.getElem?_eq_some_iff.1 ho).1; simpa using this
      have hdrop : ops.toList.drop i = o :: ops.toList.drop j := by
        rw [hj, ← List.getElem_cons_drop hlen]
        congr 1
        have := (Array.getElem?_eq_some_iff.1 ho).2
        simpa using this
      rw [hdrop]
      refine wpList_step fun K hK => ?_
      rw [if_pos hw]
      unfold Oper.wp
      rw [hrun, Oper.upon_enter]
      refine (hF h ρ w vs hr.heap (fun s o hs => by simp [get] at hs) (fun s s' o o' b _ hs => by simp [get] at hs) hall).mono ?_
      rintro e w' ⟨v, h', ρ', rfl, hrel, hout⟩
      refine hK _ _ (hn _ _ ?_)
      rw [hdst]
      refine ⟨h', ρ, (hr.extend hout).putSlot d' R v (of_decide_eq_true hc.lt) ?_⟩
      cases R with
      | one x => exact SRel.ofData hR hrel
      | tup xs =>
        obtain ⟨us, rfl, hall2⟩ := hrel
        exact ⟨us, rfl, all2_ofData hR hall2⟩
      | agg _ => simp [AV.data] at hR
      | mb _ _ _ => simp [AV.data] at hR
    · simp at hok
  · simp at hok

/-- a call that hands back one new object -/
theorem WO_call1 {ops : Array Oper} {i j : Nat} {Q : Post} {us : List (Option Ty)} {f : Nat} {as : List AV} {d s t : Nat} {p : Prop} {R : AV} {ob : LObj} (hj : j = i + 1) (hc : CallAt C ops i fr us f as d p) (hp : p) (hF : FnC C.P f as [] R [(s, ob)])
    (hs : (R.within s && ob.plain && nameOk t && decide (t < 1000)) = true) (hn : WO C ops j Q (putF (killF t fr) d (R.ren fun _ => t)) (newL t ob L)) : WO C ops i Q fr L := by
  intro a w ⟨h, ρ, hr⟩
  simp only [Bool.and_eq_true] at hs
  obtain ⟨⟨⟨hR, hpl⟩, hnm⟩, _⟩ := hs
  have hok := hc.ok
  split at hok
  · rename_i o ho
    split at hok
    · rename_i gd q hg
      obtain ⟨⟨f', as0⟩, hcall, hd⟩ := Option.bind_eq_some_iff.1 hok
      obtain ⟨as', hco, hd⟩ := Option.bind_eq_some_iff.1 hd
      obtain ⟨d', hdst, he⟩ := Option.map_eq_some_iff.1 hd
      simp only [Prod.mk.injEq] at he
      obtain ⟨rfl, rfl, rfl, rfl⟩ := he
      obtain ⟨hw, hgd⟩ := guardIs_spec hr hg hp
      obtain ⟨vs, hrun, hall0⟩ := callOf_spec hr hgd hcall hc.fn
      have hall := coer_spec _ _ _ _ hco hall0
      have hlen : i < ops.toList.length := by
        have := (Array.getElem?_eq_some_iff.1 ho).1; simpa using this
      have hdrop : ops.toList.drop i = o :: ops.toList.drop j := by
        rw [hj, ← List.getElem_cons_drop hlen]
        congr 1
        have := (Array.getElem?_eq_some_iff.1 ho).2
        simpa using this
      rw [hdrop]
      refine wpList_step fun K hK => ?_
      rw [if_pos hw]
      unfold Oper.wp
      rw [hrun, Oper.upon_enter]
      refine (hF h ρ w vs hr.heap (fun s o hs => by simp [get] at hs) (fun s s' o o' b _ hs => by simp [get] at hs) hall).mono ?_
      rintro e w' ⟨v, h', ρ', rfl, hrel, hout⟩
      refine hK _ _ (hn _ _ ?_)
      rw [hdst]
      have hext := hr.extend hout
      have hnew := hout.objs s ob (by simp [get])
      have hnew' : ORel (fun b => w.heap.size ≤ b) h' ρ' w' (ρ' s) ob := by
        refine hnew.own_mono fun b hb => ?_
        rcases (hnew.block hb).1 with h1 | ⟨t', p', ht', _⟩
        · exact h1
        · simp [get] at ht'
      have hrel2 := hext.fresh_name t hnm (ρ' s) ob w' rfl rfl rfl (Nat.le_refl _) none (fun b hb => by cases hb) (fun _ _ _ => rfl)
        ((hnew'.own_mono fun b hb => .inl (Nat.le_trans hr.grow (hnew'.block hb).1)).plain hpl) ?_ ?_
      · exact ⟨h', _, hrel2.putSlot d' _ v (of_decide_eq_true hc.lt) (hrel.within hR (by simp [upd]))⟩
      · intro b hb s' o' _ hs' hb'
        have h1 := (hnew'.block hb).1
        have h2 := ((hr.objs s' o' hs').block hb').2.2
        omega
      · intro _ b hb
        exact Nat.le_trans hr.grow (hnew'.block hb).1
    · simp at hok
  · simp at hok

/-! ### data made of an object -/
def SV.frz (s : Nat) (t : Ty) (xs : List t.den) : SV → SV
  | .slc r => if r = s then .dat (.slice t) xs else .slc r
  | .eptr r z i o => if r = s then .any else .eptr r z i o
  | .sub r z i o => if r = s then .any else .sub r z i o
  | .ptr r o => if r = s then .any else .ptr r o
  | .fn f caps => if caps.any (·.1 == s) then .any else .fn f caps
  | .rhd r i => if r = s then .any else .rhd r i
  | x => x
def AV.frz (s : Nat) (t : Ty) (xs : List t.den) : AV → AV
  | .one x => .one (x.frz s t xs)
  | .agg cs => .agg (cs.map (SV.frz s t xs))
  | .tup cs => .tup (cs.map (SV.frz s t xs))
  | .mb g b x => .mb g b (x.frz s t xs)
def LObj.frz (s : Nat) (t : Ty) (xs : List t.den) : LObj → LObj
  | .cells cs => .cells (cs.map (SV.frz s t xs))
  | .rows d u ys hs => .rows d u ys (mapHs (SV.frz s t xs) hs)
  | o => o

theorem SRel.frz {h h' : Heap} {ρ : Nat → Value} {s : Nat} {t : Ty} {xs : List t.den} {x : SV} {v : Value} (hx : Ext h h') (hs : rep h' (.slice t) xs [hdrOf (ρ s)]) (e : SRel h ρ x v) : SRel h' ρ (x.frz s t xs) v := by
  cases x <;> simp only [SV.frz] <;> first
    | exact e.mono hx
    | (split
       · rename_i hr
         first
         | trivial
         | (subst hr; obtain ⟨rfl, _⟩ := e; exact repV_slice.2 hs)
       · exact e.mono hx)

theorem all2_frz {h h' : Heap} {ρ : Nat → Value} {s : Nat} {t : Ty} {xs : List t.den} {cs : List SV} {vs : List Value} (hx : Ext h h') (hs : rep h' (.slice t) xs [hdrOf (ρ s)]) (hall : All2 (SRel h ρ) cs vs) :
    All2 (SRel h' ρ) (cs.map (SV.frz s t xs)) vs := by
  induction hall with
  | nil => exact .nil
  | cons h1 _ ih => exact .cons (SRel.frz hx hs h1) ih

theorem Rel.freeze {fr : Fr} {L : LL} {s : Nat} {t : Ty} {xs : List t.den} (hr : Rel C fr L a w) (hs : get L s = some (.seq t xs)) (hlt : s < 1000) (hX : ∀ b, C.X b → b < C.w0.heap.size) :
    Rel C (mapv (AV.frz s t xs) fr) (mapv (LObj.frz s t xs) (del L s)) a w := by
  obtain ⟨h, ρ, hr⟩ := hr
  have hlow : ∀ b, Blk (ρ s) b → C.w0.heap.size ≤ b := fun b hb => hr.low s _ b hs hlt hb
  -- the heap with the row's cells
  have key : ∃ h' : Heap, Ext h h' ∧ HeapOk h' w ∧ rep h' (.slice t) xs [ρ s] ∧ (∀ b, h b = none → h' b ≠ none → Blk (ρ s) b) := by
    rcases hr.objs s _ hs with ⟨hrs, hnil⟩ | ⟨b, cap, cur, el, hrs, h1, h2, h3, h4, h5, h6, h7⟩
    · refine ⟨h, Ext.refl h, hr.heap, ?_, fun b h0 h1 => (h1 h0).elim⟩
      rw [hrs, hnil]
      exact ⟨none, 0, rfl, Nat.zero_le _, Nat.le_refl _, .inl rfl⟩
    · let h' : Heap := fun k => if k = b then some (cur.toList.take (List.length xs * t.size)) else h k
      have hext : Ext h h' := by
        intro k ys hk
        have : k ≠ b := by rintro rfl; rw [h2] at hk; cases hk
        simp [h', this, hk]
      refine ⟨h', hext, ?_, ?_, ?_⟩
      · intro k ys hk
        by_cases hkb : k = b
        · subst hkb
          simp only [h', if_true, Option.some.injEq] at hk
          subst hk
          exact ⟨cur, el, (0, 0), h3, List.take_prefix _ _⟩
        · simp only [h', if_neg hkb] at hk
          exact hr.heap k ys hk
      · rw [hrs]
        have hle : List.length xs * t.size ≤ cur.toList.length := by simp [h4]; exact Nat.mul_le_mul_right _ h5
        refine ⟨_, cap, rfl, h6, h5, .inr ⟨b, 0, cur.toList.take (List.length xs * t.size), rfl, by simp [h'], by rw [List.length_take]; omega, ?_⟩⟩
        intro i x hi
        have hlt := (List.getElem?_eq_some_iff.1 hi).1
        have hbi : (i + 1) * t.size ≤ List.length xs * t.size := Nat.mul_le_mul_right _ hlt
        rw [Nat.add_mul, Nat.one_mul] at hbi
        have : cut (cur.toList.take (List.length xs * t.size)) (0 + i * t.size) t.size = cut cur.toList (i * t.size) t.size := by
          unfold cut
          rw [Nat.zero_add, List.drop_take, List.take_take, Nat.min_eq_left (by omega)]
        rw [this]
        exact rep_mono hext _ _ _ (h7 i x hi)
      · intro k h0 h1
        by_cases hkb : k = b
        · subst hkb; rw [hrs]; rfl
        · simp only [h', if_neg hkb] at h1; exact (h1 h0).elim
  obtain ⟨h', hext, hheap, hrep, hnew⟩ := key
  rw [← (seq_hdr (hr.objs s _ hs)).1] at hrep
  refine ⟨h', ρ, ?_⟩
  have getdel : ∀ t' o', get (mapv (LObj.frz s t xs) (del L s)) t' = some o' → s ≠ t' ∧ ∃ o, get L t' = some o ∧ o' = o.frz s t xs := by
    intro t' o' ho'
    rw [get_mapv, get_del] at ho'
    split at ho'
    · simp at ho'
    · rename_i hne
      obtain ⟨o, ho, rfl⟩ := Option.map_eq_some_iff.1 ho'
      exact ⟨hne, o, ho, rfl⟩
  refine ⟨hr.size, hr.defers, ?_, hheap, ?_, ?_, hr.ext.trans hext, ?_, hr.os, hr.tape, hr.output, hr.grow, hr.frame, hr.xs, hr.pin, hr.pinlo, ?_⟩
  · intro t' av ht
    rw [get_mapv] at ht
    obtain ⟨y, hy, rfl⟩ := Option.map_eq_some_iff.1 ht
    obtain ⟨hlt', hrel⟩ := hr.fr t' y hy
    refine ⟨hlt', ?_⟩
    cases y with
    | one x => exact SRel.frz hext hrep hrel
    | agg cs =>
      obtain ⟨vs, hv, hall⟩ := hrel
      exact ⟨vs, hv, all2_frz hext hrep hall⟩
    | tup cs =>
      obtain ⟨vs, hv, hall⟩ := hrel
      exact ⟨vs, hv, all2_frz hext hrep hall⟩
    | mb g b x => exact fun ht => SRel.frz hext hrep (hrel ht)
  · intro t' o' ho'
    obtain ⟨hne, o, ho, rfl⟩ := getdel t' o' ho'
    have hob := hr.objs t' o ho
    have hn : ∀ b, Blk (ρ t') b → h' b = none := by
      intro b hb
      cases hq : h' b with
      | none => rfl
      | some q =>
        have := hnew b (hob.block hb).2.1 (by simp [hq])
        exact (hr.apart s t' _ o b hne hs ho this hb).elim
    have hob' := hob.toHeap hext (fun _ _ => rfl) hn
    cases o with
    | one u x => exact hob'
    | seq u ys => exact hob'
    | que u ys => exact hob'
    | map u v m => exact hob'
    | raw b o => exact hob'
    | cells cs =>
      obtain ⟨b, cur, el, h1, h2, h3, h4, h5, h6⟩ := hob
      exact ⟨b, cur, el, h1, h2, hn b (by rw [h1]; rfl), h4, all2_frz hext hrep h5, h6⟩
    | rows d u ys hls =>
      obtain ⟨hd, heads, F, e1, e2, e3, e4⟩ := hob
      exact ⟨hd, heads, F, e1, e2, fun b hb => ⟨(e3 b hb).1, hn b (by rw [e1]; exact blk_mkR.2 hb)⟩, e4.map _ (fun _ _ _ e => rep_mono hext _ _ _ e) (fun _ _ e => SRel.frz hext hrep e) (fun _ _ => rfl)⟩
  · intro t1 t2 o1 o2 b hne h1 h2 hb
    obtain ⟨_, p1, hp1, rfl⟩ := getdel t1 o1 h1
    obtain ⟨_, p2, hp2, rfl⟩ := getdel t2 o2 h2
    exact hr.apart t1 t2 p1 p2 b hne hp1 hp2 hb
  · intro b h0 hb
    cases hq : h' b with
    | none => rfl
    | some q =>
      have hn := hr.fresh b h0 hb
      have := hlow b (hnew b hn (by simp [hq]))
      omega
  · intro t' o' b ho' hlt' hb
    obtain ⟨_, p1, hp1, rfl⟩ := getdel t' o' ho'
    exact hr.low t' p1 b hp1 hlt' hb

def frzF (fr : Fr) (L : LL) (s : Nat) : Option (Fr × LL) :=
  match get L s with
  | some (.seq t xs) => if s < 1000 then some (mapv (AV.frz s t xs) fr, mapv (LObj.frz s t xs) (del L s)) else none
  | _ => none

theorem Rel.frzF {s : Nat} {fr' : Fr} {L' : LL} (hr : Rel C fr L a w) (h : Sl.frzF fr L s = some (fr', L')) : Rel C fr' L' a w := by
  unfold Sl.frzF at h
  split at h
  · rename_i t xs hs
    split at h
    · rename_i hlt
      simp only [Option.some.injEq, Prod.mk.injEq] at h
      obtain ⟨rfl, rfl⟩ := h
      have hX : ∀ b, C.X b → b < C.w0.heap.size := by obtain ⟨_, _, hr⟩ := hr; exact hr.xs
      exact hr.freeze hs hlt hX
    · simp at h
  · simp at h

theorem W_freeze {c : Code} {Q : Post} {fr' : Fr} {L' : LL} (s : Nat) (h : frzF fr L s = some (fr', L')) (hw : W C c Q fr' L') : W C c Q fr L := fun a w hr => hw a w (hr.frzF h)
theorem WO_freeze {ops : Array Oper} {i : Nat} {Q : Post} {fr' : Fr} {L' : LL} (s : Nat) (h : frzF fr L s = some (fr', L')) (hw : WO C ops i Q fr' L') : WO C ops i Q fr L := fun a w hr => hw a w (hr.frzF h)

/-- a slot's value read as data of a type -/
def convF (fr : Fr) (t : Nat) (u : Ty) : Option Fr :=
  match get fr t with
  | some x => (toDat u x).map fun d => (t, .one (.dat u d)) :: fr
  | none => none
theorem Rel.convF {t : Nat} {u : Ty} {fr' : Fr} (hr : Rel C fr L a w) (h : Sl.convF fr t u = some fr') : Rel C fr' L a w := by
  unfold Sl.convF at h
  split at h
  · rename_i x hx
    obtain ⟨d, hd, rfl⟩ := Option.map_eq_some_iff.1 h
    obtain ⟨h, ρ, hr⟩ := hr
    refine ⟨h, ρ, { hr with fr := fun k av hk => ?_ }⟩
    rw [get] at hk
    split at hk
    · rename_i htk; subst htk
      simp only [Option.some.injEq] at hk; subst hk
      exact ⟨(hr.fr t x hx).1, toDat_sound (hr.fr t x hx).2 hd⟩
    · exact hr.fr k av hk
  · simp at h
theorem W_conv {c : Code} {Q : Post} {fr' : Fr} (t : Nat) (u : Ty) (h : convF fr t u = some fr') (hw : W C c Q fr' L) : W C c Q fr L := fun a w hr => hw a w (hr.convF h)
theorem WO_conv {ops : Array Oper} {i : Nat} {Q : Post} {fr' : Fr} (t : Nat) (u : Ty) (h : convF fr t u = some fr') (hw : WO C ops i Q fr' L) : WO C ops i Q fr L := fun a w hr => hw a w (hr.convF h)

/-- the nil slice in a slot, as an object that can grow -/
def ownF (fr : Fr) (t s : Nat) : Option Fr :=
  match get fr t with
  | some (.one .nilS) => if s < 1000 then some ((t, .one (.slc s)) :: killF s fr) else none
  | _ => none
theorem Rel.ownNil {t s : Nat} {u : Ty} {fr' : Fr} (hr : Rel C fr L a w) (h : ownF fr t s = some fr') : Rel C fr' (newL s (.seq u []) L) a w := by
  unfold ownF at h
  split at h
  · rename_i hx
    split at h
    · rename_i hlt
      simp only [Option.some.injEq] at h; subst h
      obtain ⟨h, ρ, hr⟩ := hr
      have hnm : nameOk s = true := by simp [nameOk, hlt]
      have hnew := hr.fresh_name s hnm (.slice none 0 0) (.seq u []) w rfl rfl rfl (Nat.le_refl _) none (fun b hb => by cases hb) (fun _ _ _ => rfl) (.inl ⟨rfl, rfl⟩) (fun b hb => by simp [Blk] at hb) (fun _ b hb => by simp [Blk] at hb)
      refine ⟨h, _, { hnew with fr := fun k av hk => ?_ }⟩
      rw [get] at hk
      split at hk
      · rename_i htk; subst htk
        simp only [Option.some.injEq] at hk; subst hk
        obtain ⟨h1, h2⟩ := hr.fr t _ hx
        have h2 : a.tmps.getD t undef = .slice none 0 0 := h2
        exact ⟨h1, by rw [h2]; exact ⟨by simp [upd]; rfl, rfl⟩⟩
      · exact hnew.fr k av hk
    · simp at h
  · simp at h
theorem W_own {c : Code} {Q : Post} {fr' : Fr} (t s : Nat) (u : Ty) (h : ownF fr t s = some fr') (hw : W C c Q fr' (newL s (.seq u []) L)) : W C c Q fr L := fun a w hr => hw a w (hr.ownNil h)
theorem WO_own {ops : Array Oper} {i : Nat} {Q : Post} {fr' : Fr} (t s : Nat) (u : Ty) (h : ownF fr t s = some fr') (hw : WO C ops i Q fr' (newL s (.seq u []) L)) : WO C ops i Q fr L := fun a w hr => hw a w (hr.ownNil h)

/-- a slice that is there is not too long -/
theorem W_len {c : Code} {Q : Post} {t : Nat} {u : Ty} {xs : List u.den} (h : get fr t = some (.one (.dat (.slice u) xs))) (hw : List.length xs ≤ maxSl → W C c Q fr L) : W C c Q fr L := by
  intro a w hr
  obtain ⟨h', ρ, hr'⟩ := hr
  obtain ⟨_, _, _, hl, _⟩ := sl_form (repV_slice.1 (hr'.fr t _ h).2)
  exact hw hl a w ⟨h', ρ, hr'⟩
theorem W_lenS {c : Code} {Q : Post} {s : Nat} {u : Ty} {xs : List u.den} (h : get L s = some (.seq u xs)) (hw : List.length xs ≤ maxSl → W C c Q fr L) : W C c Q fr L := by
  intro a w hr
  obtain ⟨h', ρ, hr'⟩ := hr
  have hl : List.length xs ≤ maxSl := by
    rcases hr'.objs s _ h with ⟨_, hn⟩ | ⟨_, _, _, _, _, _, _, _, _, _, hl, _⟩
    · rw [hn]; exact Nat.zero_le _
    · exact hl
  exact hw hl a w ⟨h', ρ, hr'⟩

/-- to the end of a piece of code -/
@[reducible] def endQ (fr1 : Fr) (L1 : LL) : Post := fun e fr L => e = .normal ∧ (fr, L) = (fr1, L1)
theorem W_to {B : Code} {p : List Nat} {Q : Post} {fr1 : Fr} {L1 : LL} (h1 : W C (nav B p) (endQ fr1 L1) fr L) (h2 : Q .normal fr1 L1) : W C (nav B p) Q fr L :=
  W_mono (fun e f l ⟨he, hs⟩ => by subst he; cases hs; exact h2) h1

/-- ways that meet again -/
@[reducible] def joinQ {V : Type} (S : V → Fr × LL) (T : V → Prop) (Q : Post) : Post := fun e fr L => match e with
  | .normal => ∃ v, T v ∧ (fr, L) = S v
  | e => Q e fr L
theorem W_seq_join {B : Code} {p : List Nat} {Q : Post} {V : Type} (S : V → Fr × LL) (T : V → Prop) (h : isSeq (nav B p) = true) (hj : ∀ v, T v → W C (nav B (1 :: p)) Q (S v).1 (S v).2)
    (h1 : W C (nav B (0 :: p)) (joinQ S T Q) fr L) : W C (nav B p) Q fr L := by
  refine W_seq h (W_mono (fun e f l hq => ?_) h1)
  cases e with
  | normal =>
    obtain ⟨v, ht, hs⟩ := hq
    have := hj v ht
    rw [← hs] at this
    exact this
  | _ => exact hq

/-- an object under another name -/
def renF (fr : Fr) (L : LL) (s t : Nat) : Option (Fr × LL) :=
  match get L s with
  | some o => if o.plain ∧ t < 1000 ∧ s < 1000 ∧ s ≠ t then some (mapv (fun x => match x with | .one (.slc r) => if r = s then .one (.slc t) else (AV.one (.slc r)).kill t | y => (y.kill s).kill t) fr, (t, o) :: mapv (LObj.kill t) (mapv (LObj.kill s) (del (del L s) t))) else none
  | none => none
end
end Go.Sl

/- Regions that draw their order: quiet operations in any order, then a tail in one order. -/
namespace Go.Sl
open Go

def edgesOf (o : Oper) : List Nat := (o.after.toList.filter fun e => Region.binds .any e).map (·.on)

def drawOk (ops : Array Oper) (m : Nat) : Bool :=
  decide (m ≤ ops.size) &&
  (ops.toList.zipIdx.all fun p => (edgesOf p.1).all (fun j => decide (j < p.2)) && (match p.1.guard with | some (j, _) => (edgesOf p.1).contains j | none => true) &&
    (if p.2 < m then p.1.dst.isSome else (List.range p.2).all fun j => (edgesOf p.1).contains j)) &&
  decide (((ops.toList.take m).filterMap (·.dst)).Nodup)

/-- what a quiet operation gives, out of the frame of those that it waits for -/
def qDraw (P : Program) (ops : Array Oper) (fr : Fr) (L : LL) (ov : Option Orc) (o : Oper) : Option (AV × List Prop) :=
  match o.guard with
  | none =>
    match qstep P fr L none (Orc.sv ov) o.op with
    | some (av, p) => if av.sure then some (av, owed (owes o.op (Orc.sv ov)) p) else none
    | none => none
  | some (j, b) =>
    match guardSlot ops j with
    | some g =>
      if o.dst = some g then none else
      match qstep P fr L (some (g, b)) (Orc.sv ov) o.op with
      | some (.one x, p) => some (.mb g b x, owed (owes o.op (Orc.sv ov)) p)
      | _ => none
    | none => none

def pick {α : Type} (l : List α) : List Nat → List α
  | [] => []
  | j :: js => match l[j]? with | some x => x :: pick l js | none => pick l js

def ents (P : Program) (ops : Array Oper) (fr0 : Fr) (L : LL) (orcs : List (Nat × Orc)) : Nat → List Oper → List (Nat × AV) → Option (List (Nat × AV) × List Prop)
  | _, [], acc => some (acc, [])
  | i, o :: r, acc =>
    match o.dst, qDraw P ops (pick acc (edgesOf o) ++ fr0) L (get orcs (2 * i + 1)) o with
    | some d, some (av, p) =>
      match ents P ops fr0 L orcs (i + 1) r (acc ++ [(d, av)]) with
      | some (l, q) => some (l, p ++ q)
      | none => none
    | _, _ => none

def delAll {α : Type} : List Nat → List (Nat × α) → List (Nat × α)
  | [], l => l
  | d :: ds, l => delAll ds (del l d)
def sureFr : Fr → Fr
  | [] => []
  | (k, v) :: l => if v.sure then (k, v) :: sureFr l else sureFr l

def baseFr (ops : Array Oper) (m : Nat) (fr : Fr) : Fr := sureFr (delAll ((ops.toList.take m).filterMap (·.dst)) fr)

theorem get_delAll {α : Type} : ∀ (ds : List Nat) (l : List (Nat × α)) (t : Nat) (v : α), get (delAll ds l) t = some v → t ∉ ds ∧ get l t = some v
  | [], l, t, v, h => ⟨by simp, h⟩
  | d :: ds, l, t, v, h => by
    obtain ⟨h1, h2⟩ := get_delAll ds _ t v h
    rw [get_del] at h2
    split at h2
    · cases h2
    · rename_i hne; exact ⟨by simp [h1]; exact fun e => hne e.symm, h2⟩

theorem get_mem {α : Type} : ∀ (l : List (Nat × α)) (t : Nat) (v : α), get l t = some v → (t, v) ∈ l
  | [], t, v, h => by simp [get] at h
  | (k, x) :: l, t, v, h => by
    rw [get] at h
    split at h
    · rename_i hk; subst hk; simp only [Option.some.injEq] at h; subst h; simp
    · exact List.mem_cons_of_mem _ (get_mem l t v h)

theorem mem_sureFr : ∀ (l : Fr) (p : Nat × AV), p ∈ sureFr l → p ∈ l ∧ p.2.sure = true
  | [], p, h => by simp [sureFr] at h
  | (k, v) :: l, p, h => by
    rw [sureFr] at h
    split at h
    · rename_i hv
      rcases List.mem_cons.1 h with rfl | h
      · exact ⟨by simp, hv⟩
      · have := mem_sureFr l p h; exact ⟨by simp [this.1], this.2⟩
    · have := mem_sureFr l p h; exact ⟨by simp [this.1], this.2⟩

theorem get_append {α : Type} (l m : List (Nat × α)) (t : Nat) (v : α) (h : get (l ++ m) t = some v) : (t, v) ∈ l ∨ get m t = some v := by
  induction l with
  | nil => exact .inr h
  | cons p l ih =>
    obtain ⟨k, x⟩ := p
    rw [List.cons_append, get] at h
    split at h
    · rename_i hk; subst hk; simp only [Option.some.injEq] at h; subst h; left; simp
    · rcases ih h with h | h
      · left; simp [h]
      · exact .inr h

theorem mem_pick {α : Type} (l : List α) : ∀ (js : List Nat) (x : α), x ∈ pick l js → ∃ j ∈ js, l[j]? = some x
  | [], x, h => by simp [pick] at h
  | j :: js, x, h => by
    rw [pick] at h
    split at h
    · rename_i y hy
      rcases List.mem_cons.1 h with rfl | h
      · exact ⟨j, by simp, hy⟩
      · obtain ⟨k, hk, hx⟩ := mem_pick l js x h; exact ⟨k, by simp [hk], hx⟩
    · obtain ⟨k, hk, hx⟩ := mem_pick l js x h; exact ⟨k, by simp [hk], hx⟩

theorem AllP.append {p q : List Prop} (h : AllP (p ++ q)) : AllP p ∧ AllP q := by
  have mk : ∀ (l : List Prop), (∀ x ∈ l, x) → AllP l := by
    intro l
    induction l with
    | nil => intro _; trivial
    | cons x l ih =>
      intro hx
      cases l with
      | nil => exact hx x (by simp)
      | cons y l => exact ⟨hx x (by simp), ih (fun z hz => hx z (List.mem_cons_of_mem _ hz))⟩
  exact ⟨mk p fun x hx => h.mem x (List.mem_append_left _ hx), mk q fun x hx => h.mem x (List.mem_append_right _ hx)⟩

/-- the entries, one by one -/
theorem ents_spec {P : Program} {ops : Array Oper} {fr0 : Fr} {L : LL} {orcs : List (Nat × Orc)} : ∀ (l : List Oper) (i : Nat) (acc out : List (Nat × AV)) (obs : List Prop), acc.length = i → ents P ops fr0 L orcs i l acc = some (out, obs) → AllP obs →
    out.length = i + l.length ∧ (∀ k, k < i → out[k]? = acc[k]?) ∧ ∀ k o, l[k]? = some o → ∃ d av p, o.dst = some d ∧ out[i + k]? = some (d, av) ∧ AllP p ∧
      qDraw P ops (pick (out.take (i + k)) (edgesOf o) ++ fr0) L (get orcs (2 * (i + k) + 1)) o = some (av, p)
  | [], i, acc, out, obs, hl, h, _ => by
    simp only [ents, Option.some.injEq, Prod.mk.injEq] at h
    obtain ⟨rfl, _⟩ := h
    exact ⟨by simp [hl], fun _ _ => rfl, fun k o hk => by simp at hk⟩
  | o :: l, i, acc, out, obs, hl, h, ho => by
    simp only [ents] at h
    split at h
    · rename_i d av p hd hq
      split at h
      · rename_i l' q he
        simp only [Option.some.injEq, Prod.mk.injEq] at h
        obtain ⟨rfl, rfl⟩ := h
        obtain ⟨hp, hq'⟩ := ho.append
        obtain ⟨h1, h2, h3⟩ := ents_spec l (i + 1) (acc ++ [(d, av)]) l' q (by simp [hl]) he hq'
        have hacc : l'.take i = acc := by
          apply List.ext_getElem?
          intro k
          rw [List.getElem?_take]
          split
          · rename_i hk
            rw [h2 k (by omega), List.getElem?_append_left (by omega)]
          · rw [List.getElem?_eq_none (by omega)]
        refine ⟨by rw [h1]; simp; omega, fun k hk => ?_, fun k o' hk => ?_⟩
        · rw [h2 k (by omega), List.getElem?_append_left (by omega)]
        · cases k with
          | zero =>
            simp only [List.getElem?_cons_zero, Option.some.injEq] at hk
            subst hk
            refine ⟨d, av, p, hd, ?_, hp, ?_⟩
            · rw [Nat.add_zero, h2 i (by omega), List.getElem?_append_right (by omega)]; simp [hl]
            · rw [Nat.add_zero, hacc]; exact hq
          | succ k =>
            obtain ⟨d', av', p', a1, a2, a3, a4⟩ := h3 k o' (by simpa using hk)
            have e : i + 1 + k = i + (k + 1) := by omega
            rw [e] at a2 a4
            exact ⟨d', av', p', a1, a2, a3, a4⟩
      · simp at h
    · simp at h

section
variable {C : Ctx} {fr : Fr} {L : LL}

theorem least_of {p : Nat → Prop} : ∀ (n : Nat), p n → ∃ k, p k ∧ ∀ j, j < k → ¬ p j := by
  intro n
  induction n using Nat.strongRecOn with
  | _ n ih =>
    intro hn
    by_cases h : ∃ j, j < n ∧ p j
    · obtain ⟨j, hj, hpj⟩ := h; exact ih j hj hpj
    · exact ⟨n, hn, fun j hj hpj => h ⟨j, hj, hpj⟩⟩

theorem count_one (n i : Nat) (f : Nat → Bool) (hi : i < n) (hf : f i = false) : ((List.range n).filter fun k => decide (k = i) || f k).length = ((List.range n).filter f).length + 1 := by
  induction n with
  | zero => omega
  | succ n ih =>
    simp only [List.range_succ, List.filter_append, List.length_append]
    by_cases hin : i = n
    · subst hin
      have : (List.range i).filter (fun k => decide (k = i) || f k) = (List.range i).filter f := by
        apply List.filter_congr
        intro k hk
        have : k < i := by simpa using hk
        simp [show k ≠ i by omega]
      rw [this]
      simp [List.filter_cons, hf]
    · have hlt : i < n := by omega
      rw [ih hlt]
      have : [n].filter (fun k => decide (k = i) || f k) = [n].filter f := by
        simp [List.filter_cons, show n ≠ i by omega]
      rw [this]; omega

/-- what holds when some of the quiet operations have been carried out -/
structure Half (C : Ctx) (m : Nat) (fr0 : Fr) (L : LL) (out : List (Nat × AV)) (listed : Array Bool) (h : Heap) (ρ : Nat → Value) (a : Act) (w : World) : Prop where
  rel : RelH C h ρ fr0 L a w
  done : ∀ i d av, i < m → listed.getD i false = true → out[i]? = some (d, av) → d < C.n ∧ VRel h ρ a.tmps av (a.tmps.getD d undef)

theorem Half.frame {m : Nat} {fr0 : Fr} {out : List (Nat × AV)} {listed : Array Bool} {h : Heap} {ρ : Nat → Value} {a : Act} {w : World} (hh : Half C m fr0 L out listed h ρ a w) (l : List (Nat × AV))
    (hl : ∀ x ∈ l, ∃ j, j < m ∧ listed.getD j false = true ∧ out[j]? = some x) : RelH C h ρ (l ++ fr0) L a w :=
  { hh.rel with
    fr := fun t av ht => by
      rcases get_append _ _ _ _ ht with hx | hx
      · obtain ⟨j, hj, hjl, hjo⟩ := hl _ hx
        exact hh.done j t av hj hjl hjo
      · exact hh.rel.fr t av hx }

theorem edges_lt {ops : Array Oper} {m : Nat} (hok : drawOk ops m = true) {i : Nat} {o : Oper} (ho : ops[i]? = some o) : (∀ j ∈ edgesOf o, j < i) ∧ (∀ j b, o.guard = some (j, b) → j ∈ edgesOf o) ∧ (i < m → o.dst.isSome = true) ∧ (m ≤ i → ∀ j, j < i → j ∈ edgesOf o) := by
  unfold drawOk at hok
  simp only [Bool.and_eq_true, List.all_eq_true] at hok
  have hmem : (o, i) ∈ ops.toList.zipIdx := by
    rw [List.mem_iff_getElem?]
    exact ⟨i, by simp [ho]⟩
  obtain ⟨⟨h1, h2⟩, h3⟩ := hok.1.2 _ hmem
  refine ⟨fun j hj => by simpa using h1 j hj, fun j b hg => ?_, fun hi => ?_, fun hi j hj => ?_⟩
  · simp only [hg] at h2; simpa using h2
  · simp only at h3; rw [if_pos hi] at h3; exact h3
  · simp only at h3; rw [if_neg (by omega)] at h3; simpa using List.all_eq_true.1 h3 j (by simpa using hj)

theorem mem_ready' {ops : Array Oper} {listed : Array Bool} {i : Nat} : i ∈ Region.ready .any ops listed ↔ i < ops.size ∧ listed.getD i true = false ∧ ∃ o, ops[i]? = some o ∧ ∀ j ∈ edgesOf o, listed.getD j false = true := by
  unfold Region.ready
  simp only [List.mem_filter, List.mem_range, Bool.and_eq_true, Bool.not_eq_true']
  constructor
  · rintro ⟨h1, h2, h3⟩
    refine ⟨h1, h2, ops[i], Array.getElem?_eq_getElem h1, fun j hj => ?_⟩
    rw [Array.getElem?_eq_getElem h1] at h3
    simp only [Option.map_some, Option.getD_some, Array.all_eq_true'] at h3
    unfold edgesOf at hj
    obtain ⟨e, he, rfl⟩ := List.mem_map.1 hj
    obtain ⟨he1, he2⟩ := List.mem_filter.1 he
    have := h3 e (by simpa using he1)
    simpa [he2] using this
  · rintro ⟨h1, h2, o, ho, h3⟩
    refine ⟨h1, h2, ?_⟩
    rw [ho]
    simp only [Option.map_some, Option.getD_some, Array.all_eq_true']
    intro e he
    cases hb : Region.binds .any e with
    | false => rfl
    | true =>
      simp only [Bool.not_true, Bool.false_or]
      exact h3 e.on (List.mem_map.2 ⟨e, List.mem_filter.2 ⟨by simpa using he, hb⟩, rfl⟩)

/-- the tail: one operation behind the other -/
theorem draw_tail {ops : Array Oper} {m : Nat} {orcs : List (Nat × Orc)} {Q : Exit → Act → World → Prop} (hok : drawOk ops m = true) (hd : dstOk C.n ops = true) :
    ∀ (r : Nat) (k : Nat) (fr : Fr) (L : LL) (fr' : Fr) (L' : LL) (obs : List Prop) (listed : Array Bool) (a : Act) (w : World), ops.size = k + r → m ≤ k → listed.size = ops.size → (∀ i, i < ops.size → listed.getD i false = decide (i < k)) →
      Rel C fr L a w → run C.P ops orcs k (ops.toList.drop k) fr L = some (fr', L', obs) → AllP obs → (∀ a' w', Rel C fr' L' a' w' → Q .normal a' w') → ∀ fuel, r ≤ fuel → wpAny C.P .any ops Q fuel listed a w
  | 0, k, fr, L, fr', L', obs, listed, a, w, hk, hm, hls, hl, hr, hrun, ho, hq, fuel, _ => by
    rw [List.drop_eq_nil_of_le (by simp; omega)] at hrun
    simp only [run, Option.some.injEq, Prod.mk.injEq] at hrun
    obtain ⟨rfl, rfl, _⟩ := hrun
    have hre : Region.ready .any ops listed = [] := by
      apply List.eq_nil_iff_forall_not_mem.2
      intro i hi
      obtain ⟨h1, h2, _⟩ := mem_ready'.1 hi
      have := hl i h1
      rw [Array.getD_eq_getD_getElem?, Array.getElem?_eq_getElem (by omega)] at this h2
      simp only [Option.getD_some] at this h2
      rw [h2] at this
      have := of_decide_eq_false this.symm
      omega
    cases fuel with
    | zero => exact ⟨hre, hq a w hr⟩
    | succ fuel => exact ⟨fun _ => hq a w hr, fun i hi => by rw [hre] at hi; cases hi⟩
  | r + 1, k, fr, L, fr', L', obs, listed, a, w, hk, hm, hls, hl, hr, hrun, ho, hq, fuel + 1, hf => by
    have hklt : k < ops.size := by omega
    have hgk : ops[k]? = some ops[k] := Array.getElem?_eq_getElem hklt
    have hdrop : ops.toList.drop k = ops[k] :: ops.toList.drop (k + 1) := by
      rw [← List.getElem_cons_drop (by simpa using hklt)]; simp
    rw [hdrop, run] at hrun
    split at hrun
    · rename_i fr1 L1 p hstep
      split at hrun
      · rename_i fr2 L2 q hrun2
        simp only [Option.some.injEq, Prod.mk.injEq] at hrun
        obtain ⟨rfl, rfl, rfl⟩ := hrun
        obtain ⟨hp, hq'⟩ := ho.append
        obtain ⟨h, ρ, hrel⟩ := hr
        have hdst : ∀ d, ops[k].dst = some d → d < C.n := by
          intro d hdd
          have := List.all_eq_true.1 hd ops[k] (by simp)
          rw [hdd] at this
          simpa using this
        have hdoes := step_sound hrel hdst hstep hp
        have hkready : k ∈ Region.ready .any ops listed := by
          refine mem_ready'.2 ⟨hklt, ?_, _, hgk, fun j hj => ?_⟩
          · have := hl k hklt
            rw [Array.getD_eq_getD_getElem?, Array.getElem?_eq_getElem (by omega)] at this ⊢
            simpa using this
          · have hjk := (edges_lt hok hgk).1 j hj
            rw [hl j (by omega)]; simpa using hjk
        refine ⟨fun he => by (rw [he] at hkready; exact absurd hkready (by simp)), fun i hi => ?_⟩
        obtain ⟨h1, h2, o, ho1, ho2⟩ := mem_ready'.1 hi
        have hik : i = k := by
          have hge : k ≤ i := by
            have := hl i h1
            rw [Array.getD_eq_getD_getElem?, Array.getElem?_eq_getElem (by omega)] at this h2
            simp only [Option.getD_some] at this h2
            rw [h2] at this
            have := of_decide_eq_false this.symm
            omega
          rcases Nat.eq_or_lt_of_le hge with h3 | h3
          · exact h3.symm
          · have := ho2 k ((edges_lt hok ho1).2.2.2 (by omega) k h3)
            rw [hl k hklt] at this
            simp at this
        subst hik
        unfold wpOp
        rw [hgk]
        have hK := hdoes Q (wpAny C.P .any ops Q fuel (listed.setIfInBounds i true)) (fun a' w' hrel' =>
          draw_tail hok hd r (i + 1) fr1 L1 _ _ q (listed.setIfInBounds i true) a' w' (by omega) (by omega) (by simp [hls]) (fun j hj => by
            rw [Array.getD_eq_getD_getElem?, Array.getElem?_setIfInBounds]
            by_cases hij : i = j
            · subst hij; simp [hls, hj]
            · rw [if_neg hij]
              have := hl j hj
              rw [Array.getD_eq_getD_getElem?] at this
              rw [this]
              congr 1
              exact propext ⟨fun h => by omega, fun h => by omega⟩) hrel' hrun2 hq' hq fuel (by omega))
        simp only
        by_cases hw : Region.wanted ops[i] (yielded ops a.tmps) = true
        · rw [if_pos hw] at hK ⊢; exact .inl hK
        · rw [if_neg hw] at hK ⊢; exact hK
      · simp at hrun
    · simp at hrun

theorem Rel.drawn {a : Act} {w : World} (hr : Rel C fr L a w) : Rel C fr L a { w with drawn := w.drawn + 1 } := by
  obtain ⟨h, ρ, hr⟩ := hr
  exact ⟨h, ρ, ⟨hr.size, hr.defers, hr.fr, hr.heap, fun s o hs => (hr.objs s o hs).world fun _ _ => rfl, hr.apart, hr.ext, hr.fresh, hr.os, hr.tape, hr.output, hr.grow, hr.frame, hr.xs, hr.pin, hr.pinlo, hr.low⟩⟩

theorem base_spec {ops : Array Oper} {m : Nat} {t : Nat} {av : AV} (h : get (baseFr ops m fr) t = some av) : t ∉ (ops.toList.take m).filterMap (·.dst) ∧ av.sure = true := by
  unfold baseFr at h
  obtain ⟨h1, h2⟩ := mem_sureFr _ _ (get_mem _ _ _ h)
  refine ⟨?_, h2⟩
  intro hmem
  -- a key that was struck is not there
  have : ∀ (ds : List Nat) (l : Fr) (p : Nat × AV), p ∈ delAll ds l → p.1 ∉ ds := by
    intro ds
    induction ds with
    | nil => intro l p _; simp
    | cons d ds ih =>
      intro l p hp
      have h1 := ih _ p hp
      have h2 : ∀ (ds : List Nat) (l : Fr), p ∈ delAll ds l → p ∈ l := by
        intro ds
        induction ds with
        | nil => intro l hp; exact hp
        | cons d ds ih =>
          intro l hp
          have := ih _ hp
          clear ih h1 hp
          induction l with
          | nil => simp [del] at this
          | cons q l ih2 =>
            obtain ⟨k, v⟩ := q
            rw [del] at this
            split at this
            · exact List.mem_cons_of_mem _ (ih2 this)
            · rcases List.mem_cons.1 this with rfl | h
              · simp
              · exact List.mem_cons_of_mem _ (ih2 h)
      have h3 := h2 ds _ hp
      have h4 : ∀ l : Fr, p ∈ del l d → p.1 ≠ d := by
        intro l
        induction l with
        | nil => intro h; simp [del] at h
        | cons q l ih2 =>
          obtain ⟨k, v⟩ := q
          intro h
          rw [del] at h
          split at h
          · exact ih2 h
          · rename_i hk
            rcases List.mem_cons.1 h with rfl | h
            · exact hk
            · exact ih2 h
      simp only [List.mem_cons, not_or]
      exact ⟨h4 _ h3, h1⟩
  exact this _ _ _ h1 hmem

theorem base_get {ops : Array Oper} {m : Nat} {h : Heap} {ρ : Nat → Value} {n : Nat} {tm : Array Value} (hf : ∀ p ∈ fr, p.1 < n ∧ VRel h ρ tm p.2 (tm.getD p.1 undef)) : FrOk h ρ (baseFr ops m fr) n tm := by
  intro t av ht
  have h1 := (mem_sureFr _ _ (get_mem _ _ _ ht)).1
  have h2 : ∀ (ds : List Nat) (l : Fr) (p : Nat × AV), p ∈ delAll ds l → p ∈ l := by
    intro ds
    induction ds with
    | nil => intro l p hp; exact hp
    | cons d ds ih =>
      intro l p hp
      have := ih _ p hp
      clear ih hp
      induction l with
      | nil => simp [del] at this
      | cons q l ih2 =>
        obtain ⟨k, v⟩ := q
        rw [del] at this
        split at this
        · exact List.mem_cons_of_mem _ (ih2 this)
        · rcases List.mem_cons.1 this with rfl | h
          · simp
          · exact List.mem_cons_of_mem _ (ih2 h)
  exact hf _ (h2 _ _ _ h1)

/-- the frame's keys stand once -/
def once (fr : Fr) : Bool := decide ((fr.map (·.1)).Nodup)

theorem once_get {fr : Fr} (h : once fr = true) {p : Nat × AV} (hp : p ∈ fr) : get fr p.1 = some p.2 := by
  have hn := of_decide_eq_true h
  clear h
  induction fr with
  | nil => simp at hp
  | cons q fr ih =>
    obtain ⟨k, v⟩ := q
    simp only [List.map_cons, List.nodup_cons] at hn
    rw [get]
    rcases List.mem_cons.1 hp with rfl | hp2
    · simp
    · have hne : k ≠ p.1 := fun e => hn.1 (e ▸ List.mem_map.2 ⟨p, hp2, rfl⟩)
      rw [if_neg hne]
      exact ih hp2 hn.2

theorem W_draw {B : Code} {p : List Nat} {Q : Post} {fr' : Fr} {L' : LL} (m : Nat) (orcs : List (Nat × Orc)) (kF kL : List Nat) {out : List (Nat × AV)} {obs obs2 : List Prop} (hdr : isDraw (nav B p) = true)
    (hm : C.P.follows .mixedOrders = true) (hok : (drawOk (opsOf (nav B p)) m && dstOk C.n (opsOf (nav B p)) && once fr) = true)
    (he : ents C.P (opsOf (nav B p)) (baseFr (opsOf (nav B p)) m fr) L orcs 0 ((opsOf (nav B p)).toList.take m) [] = some (out, obs)) (ho : AllP obs)
    (htail : (match run C.P (opsOf (nav B p)) orcs m ((opsOf (nav B p)).toList.drop m) (out ++ baseFr (opsOf (nav B p)) m fr) L with | some (f, l, ob) => (restr kF kL f l).map fun r => (r.1, r.2, ob) | none => none) = some (fr', L', obs2)) (ho2 : AllP obs2)
    (hn : Q .normal fr' L') : W C (nav B p) Q fr L := by
  simp only [Bool.and_eq_true] at hok
  obtain ⟨⟨hok, hdok⟩, honce⟩ := hok
  generalize hops : opsOf (nav B p) = ops at *
  intro a w hr
  cases hc : nav B p <;> simp only [hc, isDraw, Bool.false_eq_true] at hdr
  rename_i id ops' d
  rw [hc] at hops
  simp only [opsOf] at hops
  simp only [Bool.and_eq_true] at hdr
  obtain ⟨hdr, hpl⟩ := hdr
  subst hops hdr
  split at htail
  · rename_i f l ob hrun
    obtain ⟨⟨f', l'⟩, hre, hee⟩ := Option.map_eq_some_iff.1 htail
    simp only [Prod.mk.injEq] at hee
    obtain ⟨rfl, rfl, rfl⟩ := hee
    obtain ⟨he1, _, he3⟩ := ents_spec _ 0 [] out obs rfl he ho
    have hmle : m ≤ ops'.size := by
      unfold drawOk at hok
      simp only [Bool.and_eq_true, decide_eq_true_eq] at hok
      exact hok.1.1
    have hnodup : ((ops'.toList.take m).filterMap (·.dst)).Nodup := by
      unfold drawOk at hok
      simp only [Bool.and_eq_true, decide_eq_true_eq] at hok
      exact hok.2
    have houtlen : out.length = m := by rw [he1]; simp; omega
    have hent : ∀ i o, i < m → ops'[i]? = some o → ∃ d av q, o.dst = some d ∧ out[i]? = some (d, av) ∧ AllP q ∧ qDraw C.P ops' (pick (out.take i) (edgesOf o) ++ baseFr ops' m fr) L (get orcs (2 * i + 1)) o = some (av, q) := by
      intro i o hi hoi
      obtain ⟨d, av, q, h1, h2, h3, h4⟩ := he3 i o (by rw [List.getElem?_take_of_lt hi]; simpa using hoi)
      simp only [Nat.zero_add] at h2 h4
      exact ⟨d, av, q, h1, h2, h3, h4⟩
    -- two quiet operations write two slots
    have hdist : ∀ i j d av av', i < m → j < m → out[i]? = some (d, av) → out[j]? = some (d, av') → i = j := by
      intro i j d av av' hi hj h1 h2
      have key : ∀ k, k < m → ∃ o, ops'[k]? = some o ∧ ∃ d av, o.dst = some d ∧ out[k]? = some (d, av) := by
        intro k hk
        refine ⟨ops'[k], Array.getElem?_eq_getElem (by omega), ?_⟩
        obtain ⟨d, av, _, h1, h2, _⟩ := hent k _ hk (Array.getElem?_eq_getElem (by omega))
        exact ⟨d, av, h1, h2⟩
      have hds : (ops'.toList.take m).filterMap (·.dst) = out.map (·.1) := by
        apply List.ext_getElem?
        intro k
        have hall : ∀ o ∈ ops'.toList.take m, o.dst.isSome = true := by
          intro o ho
          obtain ⟨k, hk, rfl⟩ := List.getElem_of_mem ho
          have hkm : k < m := by simp at hk; omega
          obtain ⟨o', ho', d, av, hd, _⟩ := key k hkm
          have : ops'[k]? = some ops'[k] := Array.getElem?_eq_getElem (by omega)
          rw [this] at ho'
          obtain rfl := Option.some.inj ho'
          simp [hd]
        have hfm : ∀ (l : List Oper), (∀ o ∈ l, o.dst.isSome = true) → l.filterMap (·.dst) = l.map fun o => o.dst.getD 0 := by
          intro l
          induction l with
          | nil => intro _; rfl
          | cons o l ih =>
            intro hl
            have := hl o (by simp)
            cases hod : o.dst with
            | none => rw [hod] at this; simp at this
            | some d => simp [hod, ih (fun x hx => hl x (by simp [hx]))]
        rw [hfm _ hall]
        by_cases hk : k < m
        · obtain ⟨o', ho', d, av, hd, hout⟩ := key k hk
          simp [List.getElem?_take_of_lt hk, ho', hd, hout]
        · rw [List.getElem?_eq_none (by simp; omega), List.getElem?_eq_none (by simp; omega)]
      rw [hds] at hnodup
      have hi' : i < (out.map (·.1)).length := by simp; omega
      have hj' : j < (out.map (·.1)).length := by simp; omega
      have e1 : (out.map (·.1))[i] = d := by
        have : (out.map (·.1))[i]? = some d := by simp [h1]
        rw [List.getElem?_eq_getElem hi'] at this
        exact Option.some.inj this
      have e2 : (out.map (·.1))[j] = d := by
        have : (out.map (·.1))[j]? = some d := by simp [h2]
        rw [List.getElem?_eq_getElem hj'] at this
        exact Option.some.inj this
      exact (List.getElem_inj hnodup).1 (e1.trans e2.symm)
    have hdstin : ∀ i d av, i < m → out[i]? = some (d, av) → d ∈ (ops'.toList.take m).filterMap (·.dst) := by
      intro i d av hi h1
      obtain ⟨d', av', _, h2, h3, _⟩ := hent i ops'[i] hi (Array.getElem?_eq_getElem (by omega))
      rw [h1] at h3
      simp only [Option.some.injEq, Prod.mk.injEq] at h3
      obtain ⟨rfl, rfl⟩ := h3
      refine List.mem_filterMap.2 ⟨ops'[i], ?_, h2⟩
      rw [List.mem_iff_getElem?]
      exact ⟨i, by rw [List.getElem?_take_of_lt hi]; simp⟩
    -- the quiet phase
    have quiet : ∀ (fuel : Nat) (listed : Array Bool) (a : Act) (w : World), listed.size = ops'.size → (∀ i, m ≤ i → i < ops'.size → listed.getD i false = false) →
        (∀ i o, i < m → ops'[i]? = some o → listed.getD i false = true → ∀ j ∈ edgesOf o, listed.getD j false = true) →
        (∃ h ρ, Half C m (baseFr ops' m fr) L out listed h ρ a w) → ops'.size ≤ fuel + ((List.range ops'.size).filter fun i => listed.getD i false).length → wpAny C.P .any ops' (lift C (normQ Q)) fuel listed a w := by
      intro fuel
      induction fuel with
      | zero =>
        intro listed a w hls htl hdc ⟨h, ρ, hhalf⟩ hcount
        -- all is listed
        have hall : ∀ i, i < ops'.size → listed.getD i false = true := by
          intro i hi
          have hlen : ((List.range ops'.size).filter fun i => listed.getD i false).length = (List.range ops'.size).length := by
            have := List.length_filter_le (fun i => listed.getD i false) (List.range ops'.size)
            simp at this hcount ⊢; omega
          have := List.length_filter_eq_length_iff.1 hlen i (by simpa using hi)
          simpa using this
        have hms : m = ops'.size := by
          rcases Nat.lt_or_ge m ops'.size with hlt | hge
          · have := htl m (Nat.le_refl _) hlt; rw [hall m hlt] at this; cases this
          · omega
        have hrelF := hhalf.frame out (fun x hx => by
          obtain ⟨j, hj, rfl⟩ := List.getElem_of_mem hx
          exact ⟨j, by omega, hall j (by omega), List.getElem?_eq_getElem hj⟩)
        exact draw_tail hok hdok 0 m _ L f l ob listed a w (by omega) (Nat.le_refl _) hls (fun i hi => by rw [hall i hi]; symm; exact decide_eq_true (by omega)) ⟨h, ρ, hrelF⟩ hrun ho2
          (fun a' w' hr' => ⟨f', l', hr'.keep (restr_spec hre).1 (restr_spec hre).2, rfl, hn⟩) 0 (Nat.le_refl _)
      | succ fuel ih =>
        intro listed a w hls htl hdc ⟨h, ρ, hhalf⟩ hcount
        by_cases hdone : ∀ i, i < m → listed.getD i false = true
        · -- over to the tail
          have hrelF := hhalf.frame out (fun x hx => by
            obtain ⟨j, hj, rfl⟩ := List.getElem_of_mem hx
            exact ⟨j, by omega, hdone j (by omega), List.getElem?_eq_getElem hj⟩)
          have hlk : ∀ i, i < ops'.size → listed.getD i false = decide (i < m) := by
            intro i hi
            by_cases him : i < m
            · rw [hdone i him]; simp [him]
            · rw [htl i (by omega) hi]; simp [him]
          have hcnt : ((List.range ops'.size).filter fun i => listed.getD i false).length ≤ m := by
            have h1 : (List.range ops'.size).filter (fun i => listed.getD i false) = (List.range ops'.size).filter (fun i => decide (i < m)) := by
              apply List.filter_congr
              intro i hi
              exact hlk i (by simpa using hi)
            rw [h1]
            have h2 : (List.range ops'.size).filter (fun i => decide (i < m)) = List.range m := by
              have : ops'.size = m + (ops'.size - m) := by omega
              rw [this, List.range_add, List.filter_append]
              have e1 : (List.range m).filter (fun i => decide (i < m)) = List.range m := List.filter_eq_self.2 (by simp)
              have e2 : ((List.range (ops'.size - m)).map (m + ·)).filter (fun i => decide (i < m)) = [] := List.filter_eq_nil_iff.2 (by simp)
              rw [e1, e2]; simp
            rw [h2]; simp
          exact draw_tail hok hdok (ops'.size - m) m _ L f l ob listed a w (by omega) (Nat.le_refl _) hls hlk ⟨h, ρ, hrelF⟩ hrun ho2
            (fun a' w' hr' => ⟨f', l', hr'.keep (restr_spec hre).1 (restr_spec hre).2, rfl, hn⟩) (fuel + 1) (by omega)
        · -- some quiet operation is still to come
          obtain ⟨i0, hi0, hi0l⟩ : ∃ i, i < m ∧ listed.getD i false = false := by
            simp only [Classical.not_forall, Bool.not_eq_true] at hdone
            obtain ⟨i, hi, hil⟩ := hdone; exact ⟨i, hi, hil⟩
          have gd : ∀ i b, i < ops'.size → listed.getD i b = listed.getD i false := by
            intro i b hi
            rw [Array.getD_eq_getD_getElem?, Array.getD_eq_getD_getElem?, Array.getElem?_eq_getElem (by omega)]; rfl
          have hnonempty : Region.ready .any ops' listed ≠ [] := by
            -- the least one that is not listed
            have hex : ∃ i, i < ops'.size ∧ listed.getD i false = false ∧ ∀ j, j < i → listed.getD j false = true := by
              obtain ⟨k, ⟨hk1, hk2⟩, hk3⟩ := least_of (p := fun i => i < ops'.size ∧ listed.getD i false = false) i0 ⟨by omega, hi0l⟩
              refine ⟨k, hk1, hk2, fun j hj => ?_⟩
              have := hk3 j hj
              cases hq : listed.getD j false with
              | true => rfl
              | false => exact (this ⟨by omega, hq⟩).elim
            obtain ⟨k, hk1, hk2, hk3⟩ := hex
            intro hempty
            have : k ∈ Region.ready .any ops' listed := mem_ready'.2 ⟨hk1, by rw [gd k _ hk1]; exact hk2, ops'[k], Array.getElem?_eq_getElem hk1, fun j hj => hk3 j ((edges_lt hok (Array.getElem?_eq_getElem hk1)).1 j hj)⟩
            rw [hempty] at this; cases this
          refine ⟨fun e => (hnonempty e).elim, fun i hi => ?_⟩
          obtain ⟨h1, h2, o, ho1, ho2'⟩ := mem_ready'.1 hi
          rw [gd i _ h1] at h2
          have him : i < m := by
            rcases Nat.lt_or_ge i m with h3 | h3
            · exact h3
            · have := ho2' i0 ((edges_lt hok ho1).2.2.2 h3 i0 (by omega))
              rw [hi0l] at this; cases this
          obtain ⟨d, av, q, hd1, hout, hq, hqd⟩ := hent i o him ho1
          have hdn : d < C.n := by
            have := List.all_eq_true.1 hdok o (by simpa using Array.mem_of_getElem? ho1)
            rw [hd1] at this; simpa using this
          -- the frame of those that it waits for
          have hrelI := hhalf.frame (pick (out.take i) (edgesOf o)) (fun x hx => by
            obtain ⟨j, hj, hxj⟩ := mem_pick _ _ _ hx
            have hjlt := (edges_lt hok ho1).1 j hj
            rw [List.getElem?_take_of_lt hjlt] at hxj
            exact ⟨j, by omega, ho2' j hj, hxj⟩)
          -- what becomes of it
          have next : ∀ v : Value, VRel h ρ (a.tmps.setIfInBounds d v) av v → wpAny C.P .any ops' (lift C (normQ Q)) fuel (listed.setIfInBounds i true) (a.put (some d) v) w := by
            intro v hv
            refine ih (listed.setIfInBounds i true) _ w (by simp [hls]) ?_ ?_ ?_ ?_
            · intro k hk hk2
              rw [Array.getD_eq_getD_getElem?, Array.getElem?_setIfInBounds, if_neg (by omega), ← Array.getD_eq_getD_getElem?]
              exact htl k hk hk2
            · intro k ok hk hok' hkl j hj
              have old : listed.getD j false = true → (listed.setIfInBounds i true).getD j false = true := by
                intro hjl
                rw [Array.getD_eq_getD_getElem?, Array.getElem?_setIfInBounds]
                split
                · rename_i hij; subst hij; simp [hls, h1]
                · rw [← Array.getD_eq_getD_getElem?]; exact hjl
              by_cases hik : i = k
              · subst hik
                rw [ho1] at hok'
                obtain rfl := Option.some.inj hok'
                exact old (ho2' j hj)
              · rw [Array.getD_eq_getD_getElem?, Array.getElem?_setIfInBounds, if_neg hik, ← Array.getD_eq_getD_getElem?] at hkl
                exact old (hdc k ok hk hok' hkl j hj)
            · refine ⟨h, ρ, ?_, ?_⟩
              · refine { hhalf.rel with size := by simp [Act.put, hhalf.rel.size], defers := hhalf.rel.defers, fr := fun t x hx => ?_ }
                obtain ⟨hb1, hb2⟩ := base_spec hx
                obtain ⟨h3, h4⟩ := hhalf.rel.fr t x hx
                have hne : d ≠ t := by
                  rintro rfl
                  exact hb1 (hdstin i d av him hout)
                refine ⟨h3, ?_⟩
                have : (a.put (some d) v).tmps.getD t undef = a.tmps.getD t undef := by
                  simp [Act.put, Array.getD_eq_getD_getElem?, Array.getElem?_setIfInBounds, hne]
                rw [this]
                exact h4.anyTm hb2
              · intro k dk avk hk hkl hko
                by_cases hik : i = k
                · subst hik
                  rw [hout] at hko
                  simp only [Option.some.injEq, Prod.mk.injEq] at hko
                  obtain ⟨rfl, rfl⟩ := hko
                  refine ⟨hdn, ?_⟩
                  have : (a.put (some d) v).tmps.getD d undef = v := by simp [Act.put, hhalf.rel.size, hdn]
                  rw [this]; exact hv
                · rw [Array.getD_eq_getD_getElem?, Array.getElem?_setIfInBounds, if_neg hik, ← Array.getD_eq_getD_getElem?] at hkl
                  obtain ⟨h3, h4⟩ := hhalf.done k dk avk hk hkl hko
                  have hne : d ≠ dk := by
                    rintro rfl
                    exact hik (hdist i k d av avk him hk hout hko)
                  refine ⟨h3, ?_⟩
                  have : (a.put (some d) v).tmps.getD dk undef = a.tmps.getD dk undef := by
                    simp [Act.put, Array.getD_eq_getD_getElem?, Array.getElem?_setIfInBounds, hne]
                  rw [this]
                  cases avk with
                  | mb g b x =>
                    intro ht
                    refine h4 ?_
                    -- the slot that it looks at was written before
                    obtain ⟨dk', avk', qk, e1, e2, _, e4⟩ := hent k ops'[k] hk (Array.getElem?_eq_getElem (by omega))
                    rw [hko] at e2
                    simp only [Option.some.injEq, Prod.mk.injEq] at e2
                    obtain ⟨rfl, rfl⟩ := e2
                    unfold qDraw at e4
                    split at e4
                    · split at e4
                      · split at e4
                        · rename_i hsu
                          simp only [Option.some.injEq, Prod.mk.injEq] at e4
                          rw [e4.1] at hsu
                          simp [AV.sure] at hsu
                        · simp at e4
                      · simp at e4
                    · rename_i j b' hgd
                      split at e4
                      · rename_i g' hgs
                        split at e4
                        · simp at e4
                        · split at e4
                          · simp only [Option.some.injEq, Prod.mk.injEq, AV.mb.injEq] at e4
                            have hgg : g' = g := e4.1.1
                            subst hgg
                            have hjE := (edges_lt hok (Array.getElem?_eq_getElem (show k < ops'.size by omega))).2.1 j b' hgd
                            have hjl := hdc k ops'[k] hk (Array.getElem?_eq_getElem (by omega)) hkl j hjE
                            have hjlt := (edges_lt hok (Array.getElem?_eq_getElem (show k < ops'.size by omega))).1 j hjE
                            have hgd' : d ≠ g' := by
                              intro hdg0
                              unfold guardSlot at hgs
                              obtain ⟨oj, hoj, hdj⟩ := Option.bind_eq_some_iff.1 hgs
                              obtain ⟨dj, avj, _, f1, f2, _⟩ := hent j oj (by omega) hoj
                              rw [hdj, ← hdg0] at f1
                              rw [← Option.some.inj f1] at f2
                              have := hdist i j d av avj him (by omega) hout f2
                              subst this
                              rw [h2] at hjl; cases hjl
                            have : (a.put (some d) v).tmps[g']? = a.tmps[g']? := by
                              simp [Act.put, Array.getElem?_setIfInBounds, hgd']
                            rw [this] at ht; exact ht
                          · simp at e4
                      · simp at e4
                  | _ => exact h4
            · have : ((List.range ops'.size).filter fun k => (listed.setIfInBounds i true).getD k false).length = ((List.range ops'.size).filter fun k => listed.getD k false).length + 1 := by
                have hset : ∀ k, k < ops'.size → (listed.setIfInBounds i true).getD k false = (decide (k = i) || listed.getD k false) := by
                  intro k hk
                  rw [Array.getD_eq_getD_getElem?, Array.getElem?_setIfInBounds]
                  by_cases hik : i = k
                  · subst hik; simp [hls, h1]
                  · rw [if_neg hik, ← Array.getD_eq_getD_getElem?]; simp [Ne.symm hik]
                rw [List.filter_congr (q := fun k => decide (k = i) || listed.getD k false) (fun k hk => hset k (by simpa using hk))]
                exact count_one ops'.size i (fun k => listed.getD k false) h1 h2
              rw [this]; omega
          unfold wpOp
          rw [ho1]
          simp only
          unfold qDraw at hqd
          split at hqd
          · rename_i hgd
            split at hqd
            · rename_i av1 p1 hr1
              split at hqd
              · simp only [Option.some.injEq, Prod.mk.injEq] at hqd
                obtain ⟨rfl, rfl⟩ := hqd
                have hp : p1 := by
                  cases hb : owes o.op (Orc.sv (get orcs (2 * i + 1))) with
                  | true => rw [hb] at hq; exact hq
                  | false => exact owes_spec hr1 hb
                obtain ⟨v, hv, hrel, hsu⟩ := qstep_sound hrelI (gd := none) (fun _ _ e => by cases e) hr1 hp
                rw [if_pos (by simp [Region.wanted, hgd])]
                left
                unfold Oper.wp
                rw [hv, Oper.upon_value, hd1]
                exact next v (hrel.anyTm hsu)
              · simp at hqd
            · simp at hqd
          · rename_i j b hgd
            split at hqd
            · rename_i g hgs
              split at hqd
              · simp at hqd
              · rename_i hdg
                split at hqd
                · rename_i x pp hq1
                  simp only [Option.some.injEq, Prod.mk.injEq] at hqd
                  obtain ⟨rfl, rfl⟩ := hqd
                  have hp : pp := by
                    cases hb : owes o.op (Orc.sv (get orcs (2 * i + 1))) with
                    | true => rw [hb] at hq; exact hq
                    | false => exact owes_spec hq1 hb
                  have hdg' : d ≠ g := by
                    rintro rfl; exact hdg hd1
                  have hy : yielded ops' a.tmps j = match a.tmps[g]? with | some (.bool b) => some b | _ => none := by
                    unfold guardSlot at hgs
                    unfold yielded
                    rw [hgs]; rfl
                  by_cases hw : a.tmps[g]? = some (.bool b)
                  · have hwant : Region.wanted o (yielded ops' a.tmps) = true := by
                      rw [hw] at hy
                      simp [Region.wanted, hgd, hy]
                    obtain ⟨v, hv, hrel, _⟩ := qstep_sound hrelI (gd := some (g, b)) (fun g' b' e => by simp only [Option.some.injEq, Prod.mk.injEq] at e; obtain ⟨rfl, rfl⟩ := e; exact hw) hq1 hp
                    rw [if_pos hwant]
                    left
                    unfold Oper.wp
                    rw [hv, Oper.upon_value, hd1]
                    exact next v (fun _ => hrel)
                  · have hwant : Region.wanted o (yielded ops' a.tmps) = false := by
                      simp only [Region.wanted, hgd, hy]
                      split
                      · rename_i b' hb'
                        simp only [hb', Option.some.injEq, Value.bool.injEq] at hw
                        simp [hw]
                      · simp
                    rw [if_neg (by simp [hwant]), hd1]
                    refine next undef (fun ht => ?_)
                    rw [Array.getElem?_setIfInBounds, if_neg hdg'] at ht
                    exact (hw ht).elim
                · simp at hqd
            · simp at hqd
    refine region_any hpl hm (quiet ops'.size _ a _ (by simp) (fun i _ hi => by simp [Array.getD_eq_getD_getElem?, hi]) (fun i o hi ho hl => ?_) ?_ (by omega))
    · rw [Array.getD_eq_getD_getElem?] at hl
      simp [show i < ops'.size by omega] at hl
    · obtain ⟨h, ρ, hr'⟩ := hr.drawn
      refine ⟨h, ρ, { hr' with fr := base_get (fun p hp => hr'.fr p.1 p.2 (once_get honce hp)) }, fun i d av hi hl => ?_⟩
      rw [Array.getD_eq_getD_getElem?] at hl
      simp [show i < ops'.size by omega] at hl
  · simp at htail
end
end Go.Sl

/- Words for what a program of ours prints. -/
namespace Go.Sl
open Go

theorem Idx.of {α : Type} {xs : List α} {i : Int} {x : α} (h : idx xs i = some x) : Idx xs i x := by
  unfold idx at h
  split at h
  · rename_i h0; exact ⟨h0, h⟩
  · cases h
theorem InR.of {α : Type} {xs : List α} {i : Int} {x : α} (h : idx xs i = some x) : InR i (List.length xs) := by
  obtain ⟨h0, h1⟩ := Idx.of h
  have := (List.getElem?_eq_some_iff.1 h1).1
  exact ⟨h0, by omega⟩

theorem allP1 {p : Prop} (h : p) : AllP [p] := h
theorem allP2 {p q : Prop} {r : List Prop} (h : p) (t : AllP (q :: r)) : AllP (p :: q :: r) := ⟨h, t⟩
theorem allP0 : AllP [] := trivial

section
variable {C : Ctx} {B : Code} {p : List Nat} {Q : Post} {fr fr' : Fr} {L L' : LL}

theorem seqQ_norm {K : Fr → LL → Prop} (h : K fr L) : seqQ K Q .normal fr L := h
theorem seqQ_exit {K : Fr → LL → Prop} {i : Nat} (h : Q (.exit i) fr L) : seqQ K Q (.exit i) fr L := h
theorem seqQ_ret {K : Fr → LL → Prop} (h : Q .ret fr L) : seqQ K Q .ret fr L := h
theorem blockQ_norm {i : Nat} (h : Q .normal fr L) : blockQ i Q .normal fr L := h
theorem blockQ_ret {i : Nat} (h : Q .ret fr L) : blockQ i Q .ret fr L := h

@[reducible] def exQ {V : Type} (e0 : Exit) (S : V → Fr × LL) : V → Post := fun v e fr L => e = e0 ∧ fr = (S v).1 ∧ L = (S v).2
@[reducible] def escQ {A V : Type} (J1 : A → Post) (J2 : V → Post) : Esc A V → Post := fun y => match y with
  | .ret a => J1 a
  | .brk b => J2 b
theorem exQ_mk {V : Type} {e : Exit} {S : V → Fr × LL} {v : V} (h1 : fr = (S v).1) (h2 : L = (S v).2) : exQ e S v e fr L := ⟨rfl, h1, h2⟩
theorem escQ_ret {A V : Type} {J1 : A → Post} {J2 : V → Post} {a : A} {e : Exit} (h : J1 a e fr L) : escQ J1 J2 (.ret a) e fr L := h
theorem escQ_brk {A V : Type} {J1 : A → Post} {J2 : V → Post} {b : V} {e : Exit} (h : J2 b e fr L) : escQ J1 J2 (.brk b) e fr L := h
theorem round_next' {X Y : Type} {S : X → Fr × LL} {J : Y → Post} {x : X} (h1 : fr = (S x).1) (h2 : L = (S x).2) : roundQ S J (.next x) .normal fr L := ⟨rfl, by rw [h1, h2]⟩
theorem round_exit {X Y : Type} {S : X → Fr × LL} {J : Y → Post} {y : Y} {i : Nat} (h : J y (.exit i) fr L) : roundQ S J (.done y) (.exit i) fr L := ⟨(fun e => by cases e), h⟩
theorem round_ret {X Y : Type} {S : X → Fr × LL} {J : Y → Post} {y : Y} (h : J y .ret fr L) : roundQ S J (.done y) .ret fr L := ⟨(fun e => by cases e), h⟩

/-! moves that need no printing -/
def frzT (fr : Fr) (L : LL) (s : Nat) : Fr × LL := (frzF fr L s).getD (fr, L)
def frzOk (L : LL) (s : Nat) : Bool := match get L s with | some (.seq _ _) => decide (s < 1000) | _ => false
theorem frzT_eq {s : Nat} (h : frzOk L s = true) : frzF fr L s = some ((frzT fr L s).1, (frzT fr L s).2) := by
  unfold frzT frzOk at *
  unfold frzF
  split at h
  · rename_i t xs hs
    have : s < 1000 := of_decide_eq_true h
    simp [hs, this]
  · cases h
theorem W_frz {c : Code} (s : Nat) (h : frzOk L s = true) (hw : W C c Q (frzT fr L s).1 (frzT fr L s).2) : W C c Q fr L := W_freeze s (frzT_eq h) hw
theorem WO_frz {ops : Array Oper} {i : Nat} (s : Nat) (h : frzOk L s = true) (hw : WO C ops i Q (frzT fr L s).1 (frzT fr L s).2) : WO C ops i Q fr L := WO_freeze s (frzT_eq h) hw

def convT (fr : Fr) (t : Nat) (u : Ty) : Fr := (convF fr t u).getD fr
theorem W_cnv {c : Code} (t : Nat) (u : Ty) (h : (convF fr t u).isSome = true) (hw : W C c Q (convT fr t u) L) : W C c Q fr L := by
  obtain ⟨f, hf⟩ := Option.isSome_iff_exists.1 h
  refine W_conv t u hf ?_
  unfold convT at hw; rw [hf] at hw; exact hw
theorem WO_cnv {ops : Array Oper} {i : Nat} (t : Nat) (u : Ty) (h : (convF fr t u).isSome = true) (hw : WO C ops i Q (convT fr t u) L) : WO C ops i Q fr L := by
  obtain ⟨f, hf⟩ := Option.isSome_iff_exists.1 h
  refine WO_conv t u hf ?_
  unfold convT at hw; rw [hf] at hw; exact hw

def ownT (fr : Fr) (t s : Nat) : Fr := (ownF fr t s).getD fr
theorem W_mine {c : Code} (t s : Nat) (u : Ty) (h : (ownF fr t s).isSome = true) (hw : W C c Q (ownT fr t s) (newL s (.seq u []) L)) : W C c Q fr L := by
  obtain ⟨f, hf⟩ := Option.isSome_iff_exists.1 h
  refine W_own t s u hf ?_
  unfold ownT at hw; rw [hf] at hw; exact hw
theorem WO_mine {ops : Array Oper} {i : Nat} (t s : Nat) (u : Ty) (h : (ownF fr t s).isSome = true) (hw : WO C ops i Q (ownT fr t s) (newL s (.seq u []) L)) : WO C ops i Q fr L := by
  obtain ⟨f, hf⟩ := Option.isSome_iff_exists.1 h
  refine WO_own t s u hf ?_
  unfold ownT at hw; rw [hf] at hw; exact hw

theorem WO_len {ops : Array Oper} {i : Nat} {t : Nat} {u : Ty} {xs : List u.den} (h : get fr t = some (.one (.dat (.slice u) xs))) (hw : List.length xs ≤ maxSl → WO C ops i Q fr L) : WO C ops i Q fr L := by
  intro a w hr
  obtain ⟨h', ρ, hr'⟩ := hr
  obtain ⟨_, _, _, hl, _⟩ := sl_form (repV_slice.1 (hr'.fr t _ h).2)
  exact hw hl a w ⟨h', ρ, hr'⟩
/-- the end of a region, its frame cut to what is needed -/
theorem WO_fin {ops : Array Oper} {i : Nat} (kF kL : List Nat) (h : decide (ops.toList.length ≤ i) = true) (hr : restr kF kL fr L = some (fr', L')) (hq : Q .normal fr' L') : WO C ops i Q fr L :=
  WO_weaken kF kL hr (WO_end (of_decide_eq_true h) hq)
end
end Go.Sl
namespace Go.Sl
open Go
/-- a state that can be brought to what is asked -/
def LT (C : Ctx) (Q : Post) (e : Exit) (fr : Fr) (L : LL) : Prop := ∀ a w, Rel C fr L a w → lift C Q e a w
section
variable {C : Ctx} {B : Code} {p : List Nat} {Q : Post} {fr fr' : Fr} {L L' : LL} {e : Exit}
theorem W_cutK {Q' : Post} (h : W C (nav B p) Q' fr L) (hq : ∀ e fr L, Q' e fr L → LT C Q e fr L) : W C (nav B p) Q fr L :=
  fun a w hr => wpIn_mono (h a w hr) fun e a' w' ⟨f, l, hr', hq'⟩ => hq e f l hq' a' w' hr'
theorem LT_keep (kF kL : List Nat) (h : restr kF kL fr L = some (fr', L')) (hq : Q e fr' L') : LT C Q e fr L :=
  fun _ _ hr => ⟨fr', L', hr.keep (restr_spec h).1 (restr_spec h).2, hq⟩
theorem LT_frz (s : Nat) (h : frzOk L s = true) (hw : LT C Q e (frzT fr L s).1 (frzT fr L s).2) : LT C Q e fr L := fun a w hr => hw a w (hr.frzF (frzT_eq h))
theorem LT_cnv (t : Nat) (u : Ty) (h : (convF fr t u).isSome = true) (hw : LT C Q e (convT fr t u) L) : LT C Q e fr L := by
  obtain ⟨f, hf⟩ := Option.isSome_iff_exists.1 h
  unfold convT at hw; rw [hf] at hw
  exact fun a w hr => hw a w (hr.convF hf)
theorem LT_mine (t s : Nat) (u : Ty) (h : (ownF fr t s).isSome = true) (hw : LT C Q e (ownT fr t s) (newL s (.seq u []) L)) : LT C Q e fr L := by
  obtain ⟨f, hf⟩ := Option.isSome_iff_exists.1 h
  unfold ownT at hw; rw [hf] at hw
  exact fun a w hr => hw a w (hr.ownNil hf)
end
end Go.Sl

namespace Go.Sl
open Go
/-- a cell of a variable read as data -/
def cellF (L : LL) (s i : Nat) (u : Ty) : Option LL :=
  if u.isAgg then none else
  match get L s with
  | some (.cells cs) => match cs[i]? with
    | some x => (impl u [x]).map fun d => put L s (.cells (cs.set i (.dat u d)))
    | none => none
  | _ => none
def cellT (L : LL) (s i : Nat) (u : Ty) : LL := (cellF L s i u).getD L
theorem all2_set {α β : Type} {R : α → β → Prop} : ∀ {l : List α} {m : List β} (i : Nat) {a b : α}, All2 R l m → l[i]? = some a → (∀ v, R a v → R b v) → All2 R (l.set i b) m
  | _, _, i, a, b, .nil, h, _ => by simp at h
  | _, _, 0, a, b, .cons h1 h2, h, hi => by simp at h; subst h; exact .cons (hi _ h1) h2
  | _, _, i + 1, a, b, .cons h1 h2, h, hi => .cons h1 (all2_set i h2 (by simpa using h) hi)
section
variable {C : Ctx} {fr : Fr} {L : LL} {a : Act} {w : World}
theorem Rel.cellF {s i : Nat} {u : Ty} {L' : LL} (hr : Rel C fr L a w) (h : Sl.cellF L s i u = some L') : Rel C fr L' a w := by
  unfold Sl.cellF at h
  split at h
  · cases h
  · rename_i hu
    split at h
    · rename_i cs hs
      split at h
      · rename_i x hx
        obtain ⟨d, hd, rfl⟩ := Option.map_eq_some_iff.1 h
        obtain ⟨hh, ρ, hr⟩ := hr
        refine ⟨hh, ρ, { hr with objs := fun t o ho => ?_, apart := fun t t' o o' b hne ho ho' => ?_, low := fun t o b ho => ?_ }⟩
        · rw [get_put] at ho
          split at ho
          · rename_i hst; subst hst
            simp only [Option.some.injEq] at ho; subst ho
            obtain ⟨b, cur, e, h1, h2, h3, h4, h5, h6⟩ := hr.objs _ _ hs
            refine ⟨b, cur, e, h1, h2, h3, h4, all2_set i h5 hx fun v hv => ?_, h6⟩
            show RepV hh u d v
            unfold RepV
            rw [if_neg hu]
            exact impl_sound u _ _ _ (.cons hv .nil) hd
          · exact hr.objs t o ho
        · have key : ∀ t o, get (put L s (.cells (cs.set i (.dat u d)))) t = some o → ∃ o', get L t = some o' := by
            intro t o ho
            rw [get_put] at ho
            split at ho
            · rename_i hst; subst hst; exact ⟨_, hs⟩
            · exact ⟨o, ho⟩
          obtain ⟨p, hp⟩ := key _ _ ho
          obtain ⟨p', hp'⟩ := key _ _ ho'
          exact hr.apart t t' p p' b hne hp hp'
        · rw [get_put] at ho
          split at ho
          · rename_i hst; subst hst; exact hr.low _ _ b hs
          · exact hr.low t o b ho
      · cases h
    · cases h
variable {Q : Post} {c : Code} {ops : Array Oper} {e : Exit}
theorem W_cell (s i : Nat) (u : Ty) (h : (cellF L s i u).isSome = true) (hw : W C c Q fr (cellT L s i u)) : W C c Q fr L := by
  obtain ⟨f, hf⟩ := Option.isSome_iff_exists.1 h
  unfold cellT at hw; rw [hf] at hw
  exact fun a w hr => hw a w (hr.cellF hf)
theorem WO_cell {j : Nat} (s i : Nat) (u : Ty) (h : (cellF L s i u).isSome = true) (hw : WO C ops j Q fr (cellT L s i u)) : WO C ops j Q fr L := by
  obtain ⟨f, hf⟩ := Option.isSome_iff_exists.1 h
  unfold cellT at hw; rw [hf] at hw
  exact fun a w hr => hw a w (hr.cellF hf)
theorem LT_cell (s i : Nat) (u : Ty) (h : (cellF L s i u).isSome = true) (hw : LT C Q e fr (cellT L s i u)) : LT C Q e fr L := by
  obtain ⟨f, hf⟩ := Option.isSome_iff_exists.1 h
  unfold cellT at hw; rw [hf] at hw
  exact fun a w hr => hw a w (hr.cellF hf)
end
end Go.Sl

/- Calls that are handed objects: they keep their places. -/
namespace Go.Sl
open Go

def sig (σ : List (Nat × Nat)) (c : Nat) : Nat := (get σ c).getD c
def LObj.ren (f : Nat → Nat) : LObj → LObj
  | .cells cs => .cells (cs.map (SV.ren f))
  | .rows d t xs hs => .rows d t xs (mapHs (SV.ren f) hs)
  | o => o
def SV.inN (ns : List Nat) : SV → Bool
  | .ptr s _ | .slc s | .eptr s _ _ _ | .sub s _ _ _ | .rhd s _ => ns.contains s
  | .fn _ caps => caps.all fun p => ns.contains p.1
  | _ => true
def LObj.inN (ns : List Nat) : LObj → Bool
  | .cells cs => cs.all (SV.inN ns)
  | .rows _ _ _ hs => hs.all fun e => e.2.2.inN ns
  | _ => true

section
variable {h : Heap} {ρ ρ' : Nat → Value}

theorem all2_refs_ren {f : Nat → Nat} : ∀ {l : List (Nat × Nat)} {m : List Value}, All2 (Refs (fun c => ρ (f c))) l m ↔ All2 (Refs ρ) (l.map fun p => (f p.1, p.2)) m := by
  intro l m
  constructor
  · intro hl
    induction hl with
    | nil => exact .nil
    | cons h1 _ ih => exact .cons h1 ih
  · intro hl
    induction l generalizing m with
    | nil => cases hl; exact .nil
    | cons a l ih => cases hl with | cons h1 h2 => exact .cons h1 (ih h2)

theorem srel_ren {f : Nat → Nat} {x : SV} {v : Value} : SRel h (fun c => ρ (f c)) x v ↔ SRel h ρ (x.ren f) v := by
  cases x <;> simp only [SV.ren, SRel] <;> try exact Iff.rfl
  constructor
  · rintro ⟨cs, rfl, hl⟩; exact ⟨cs, rfl, all2_refs_ren.1 hl⟩
  · rintro ⟨cs, rfl, hl⟩; exact ⟨cs, rfl, all2_refs_ren.2 hl⟩
theorem all2_srel_ren {f : Nat → Nat} {l : List SV} {m : List Value} : All2 (SRel h (fun c => ρ (f c))) l m ↔ All2 (SRel h ρ) (l.map (SV.ren f)) m := by
  constructor
  · intro hl
    induction hl with
    | nil => exact .nil
    | cons h1 _ ih => exact .cons (srel_ren.1 h1) ih
  · intro hl
    induction l generalizing m with
    | nil => cases hl; exact .nil
    | cons a l ih => cases hl with | cons h1 h2 => exact .cons (srel_ren.2 h1) (ih h2)
theorem vrel_ren {f : Nat → Nat} {tm : Array Value} {x : AV} {v : Value} : VRel h (fun c => ρ (f c)) tm x v ↔ VRel h ρ tm (x.ren f) v := by
  cases x <;> simp only [AV.ren, VRel]
  · exact srel_ren
  · constructor
    · rintro ⟨vs, rfl, hl⟩; exact ⟨vs, rfl, all2_srel_ren.1 hl⟩
    · rintro ⟨vs, rfl, hl⟩; exact ⟨vs, rfl, all2_srel_ren.2 hl⟩
  · constructor
    · rintro ⟨vs, rfl, hl⟩; exact ⟨vs, rfl, all2_srel_ren.1 hl⟩
    · rintro ⟨vs, rfl, hl⟩; exact ⟨vs, rfl, all2_srel_ren.2 hl⟩
  · constructor
    · intro hl ht; exact srel_ren.1 (hl ht)
    · intro hl ht; exact srel_ren.2 (hl ht)
theorem all2_vrel_ren {f : Nat → Nat} {tm : Array Value} {l : List AV} {m : List Value} (hl : All2 (VRel h ρ tm) (l.map (AV.ren f)) m) : All2 (VRel h (fun c => ρ (f c)) tm) l m := by
  induction l generalizing m with
  | nil => cases hl; exact .nil
  | cons a l ih => cases hl with | cons h1 h2 => exact .cons (vrel_ren.2 h1) (ih h2)
theorem orel_ren {f : Nat → Nat} {own : Nat → Prop} {w : World} {q : Value} {o : LObj} : ORel own h (fun c => ρ (f c)) w q o ↔ ORel own h ρ w q (o.ren f) := by
  cases o <;> simp only [LObj.ren, ORel]
  · constructor
    · rintro ⟨b, cur, e, rfl, h1, h2, h3, h4, h5⟩; exact ⟨b, cur, e, rfl, h1, h2, h3, all2_srel_ren.1 h4, h5⟩
    · rintro ⟨b, cur, e, rfl, h1, h2, h3, h4, h5⟩; exact ⟨b, cur, e, rfl, h1, h2, h3, all2_srel_ren.2 h4, h5⟩
  · constructor
    · rintro ⟨hd, heads, F, h1, h2, h3, h4⟩; exact ⟨hd, heads, F, h1, h2, h3, h4.map _ (fun _ _ _ e => e) (fun _ _ e => srel_ren.1 e) (fun _ _ => rfl)⟩
    · rintro ⟨hd, heads, F, h1, h2, h3, h4⟩; exact ⟨hd, heads, F, h1, h2, h3, h4.unmap _ (fun _ _ e => srel_ren.2 e)⟩

theorem srel_agree {ns : List Nat} (hn : ∀ n, n ∈ ns → ρ' n = ρ n) {x : SV} {v : Value} (hx : x.inN ns = true) (e : SRel h ρ x v) : SRel h ρ' x v := by
  have refs : ∀ {p : Nat × Nat} {u : Value}, p.1 ∈ ns → Refs ρ p u → Refs ρ' p u := by
    rintro p u hp ⟨b, hb, rfl⟩
    exact ⟨b, by rw [hn _ hp]; exact hb, rfl⟩
  cases x <;> simp only [SV.inN] at hx <;> try exact e
  case sub => simp only [SRel] at e ⊢; rw [hn _ (by simpa using hx)]; exact e
  case rhd => simp only [SRel] at e ⊢; rw [hn _ (by simpa using hx)]; exact e
  · exact refs (by simpa using hx) e
  · simp only [SRel] at e ⊢
    rw [hn _ (by simpa using hx)]; exact e
  · simp only [SRel] at e ⊢
    rw [hn _ (by simpa using hx)]; exact e
  · obtain ⟨cs, rfl, hl⟩ := e
    refine ⟨cs, rfl, ?_⟩
    rename_i caps
    induction hl with
    | nil => exact .nil
    | cons h1 _ ih =>
      simp only [List.all_cons, Bool.and_eq_true] at hx
      exact .cons (refs (by simpa using hx.1) h1) (ih hx.2)
theorem orel_agree {ns : List Nat} (hn : ∀ n, n ∈ ns → ρ' n = ρ n) {own : Nat → Prop} {w : World} {q : Value} {o : LObj} (ho : o.inN ns = true) (e : ORel own h ρ w q o) : ORel own h ρ' w q o := by
  cases o <;> simp only [ORel] at e ⊢ <;> try exact e
  case rows d t xs hs =>
    obtain ⟨hd, heads, F, h1, h2, h3, h4⟩ := e
    have := h4.map' (fun x => x) (h' := h) (ρ' := ρ') (w' := w) (fun _ _ _ e => e) (fun k hk v e => srel_agree hn (List.all_eq_true.1 ho k hk) e) (fun _ _ => rfl)
    rw [mapHs_id] at this
    exact ⟨hd, heads, F, h1, h2, h3, this⟩
  obtain ⟨b, cur, el, rfl, h1, h2, h3, h4, h5⟩ := e
  refine ⟨b, cur, el, rfl, h1, h2, h3, ?_, h5⟩
  simp only [LObj.inN] at ho
  clear h5 h3
  generalize cur.toList = lc at h4
  induction h4 with
  | nil => exact .nil
  | cons h1 _ ih =>
    simp only [List.all_cons, Bool.and_eq_true] at ho
    exact .cons (srel_agree hn ho.1 h1) (ih ho.2)
end

def putAll (σ : List (Nat × Nat)) : LL → LL → LL
  | [], L => L
  | (c, o) :: r, L => put (putAll σ r L) (sig σ c) (o.ren (sig σ))

theorem get_putAll {σ : List (Nat × Nat)} : ∀ {Lo L : LL} {t : Nat} {x : LObj}, get (putAll σ Lo L) t = some x → (∃ c o, (c, o) ∈ Lo ∧ sig σ c = t ∧ x = o.ren (sig σ)) ∨ ((∀ c o, (c, o) ∈ Lo → sig σ c ≠ t) ∧ get L t = some x)
  | [], L, t, x, e => .inr ⟨fun c o h => by simp at h, e⟩
  | (c, o) :: r, L, t, x, e => by
    rw [putAll, get_put] at e
    split at e
    · rename_i ht
      simp only [Option.some.injEq] at e
      exact .inl ⟨c, o, by simp, ht, e.symm⟩
    · rename_i ht
      rcases get_putAll e with ⟨c', o', h1, h2, h3⟩ | ⟨h1, h2⟩
      · exact .inl ⟨c', o', by simp [h1], h2, h3⟩
      · refine .inr ⟨fun c' o' hm => ?_, h2⟩
        rcases List.mem_cons.1 hm with he | hm
        · simp only [Prod.mk.injEq] at he; rw [he.1]; exact ht
        · exact h1 c' o' hm

def lendOk (σ : List (Nat × Nat)) (Lin Lout : LL) : Bool :=
  decide ((Lin.map (·.1)).Nodup) && decide ((Lin.map fun p => sig σ p.1).Nodup) && decide (Lout.map (·.1) = Lin.map (·.1)) &&
  Lin.all (fun p => !nameOk p.1) && Lout.all (fun p => p.2.inN (Lin.map (·.1)))

theorem get_of_mem {α : Type} : ∀ {l : List (Nat × α)}, (l.map (·.1)).Nodup → ∀ {k : Nat} {v : α}, (k, v) ∈ l → get l k = some v
  | [], _, k, v, h => by simp at h
  | (a, b) :: l, hn, k, v, h => by
    simp only [List.map_cons, List.nodup_cons] at hn
    rw [get]
    rcases List.mem_cons.1 h with he | h
    · simp only [Prod.mk.injEq] at he; rw [if_pos he.1.symm, he.2]
    · rw [if_neg]
      · exact get_of_mem hn.2 h
      · rintro rfl
        exact hn.1 (List.mem_map.2 ⟨(a, v), h, rfl⟩)

theorem keep_map {σ : List (Nat × Nat)} : ∀ {Lin L : LL}, keep (Lin.map fun p => sig σ p.1) L = some (Lin.map fun p => (sig σ p.1, p.2.ren (sig σ))) → ∀ {c : Nat} {o : LObj}, (c, o) ∈ Lin → get L (sig σ c) = some (o.ren (sig σ))
  | [], L, _, c, o, h => by simp at h
  | (a, b) :: r, L, e, c, o, h => by
    simp only [List.map_cons, keep] at e
    split at e
    · rename_i v rr hv hr
      simp only [Option.some.injEq, List.cons.injEq, Prod.mk.injEq, true_and] at e
      rcases List.mem_cons.1 h with he | h
      · simp only [Prod.mk.injEq] at he
        rw [he.1, he.2, hv, e.1]
      · exact keep_map (by rw [hr, e.2]) h
    · cases e

theorem nodup_map_inj {α β : Type} {f : α → β} : ∀ {l : List α}, (l.map f).Nodup → ∀ {a b : α}, a ∈ l → b ∈ l → f a = f b → a = b := by
  intro l
  induction l with
  | nil => intro _ a b ha; simp at ha
  | cons x l ih =>
    intro hn a b ha hb e
    simp only [List.map_cons, List.nodup_cons] at hn
    obtain ⟨h1, h2⟩ := hn
    rcases List.mem_cons.1 ha with ha | ha <;> rcases List.mem_cons.1 hb with hb | hb
    · rw [ha, hb]
    · exact absurd (List.mem_map.2 ⟨b, hb, by rw [← e, ha]⟩) h1
    · exact absurd (List.mem_map.2 ⟨a, ha, by rw [e, hb]⟩) h1
    · exact ih h2 ha hb e

section
variable {C : Ctx} {h : Heap} {ρ : Nat → Value} {fr : Fr} {L : LL} {a : Act} {w : World}

/-- the world behind a call that was handed objects, which keep their places -/
theorem RelH.lend (hr : RelH C h ρ fr L a w) {σ : List (Nat × Nat)} {Lin Lout Lall : LL} {h' : Heap} {ρ' : Nat → Value} {w' : World} (hk : lendOk σ Lin Lout = true)
    (hL : keep (Lin.map fun p => sig σ p.1) L = some (Lin.map fun p => (sig σ p.1, p.2.ren (sig σ)))) (hsub : ∀ c o, get Lout c = some o → get Lall c = some o)
    (ho : Out h (fun c => ρ (sig σ c)) w Lin h' ρ' w' Lall) : RelH C h' ρ fr (putAll σ Lout L) a w' := by
  unfold lendOk at hk
  simp only [Bool.and_eq_true, decide_eq_true_eq] at hk
  obtain ⟨⟨⟨⟨hnd, hsnd⟩, hnames⟩, hpin⟩, hin⟩ := hk
  have inL : ∀ {c o}, get Lin c = some o → get L (sig σ c) = some (o.ren (sig σ)) := fun hg => keep_map hL (get_mem _ _ _ hg)
  have hndo : (Lout.map (·.1)).Nodup := by rw [hnames]; exact hnd
  have memIn : ∀ {c o}, (c, o) ∈ Lout → ∃ p, get Lin c = some p := by
    intro c o hm
    have : c ∈ Lin.map (·.1) := by rw [← hnames]; exact List.mem_map.2 ⟨(c, o), hm, rfl⟩
    obtain ⟨⟨c', p⟩, hp, rfl⟩ := List.mem_map.1 this
    exact ⟨p, get_of_mem hnd hp⟩
  have inOut : ∀ {c p}, get Lin c = some p → ∃ o, (c, o) ∈ Lout := by
    intro c p hg
    have : c ∈ Lout.map (·.1) := by rw [hnames]; exact List.mem_map.2 ⟨(c, p), get_mem _ _ _ hg, rfl⟩
    obtain ⟨⟨c', o⟩, hp, rfl⟩ := List.mem_map.1 this
    exact ⟨o, hp⟩
  have pins : ∀ c, c ∈ Lin.map (·.1) → ρ' c = ρ (sig σ c) := by
    intro c hc
    obtain ⟨⟨c', p⟩, hp, rfl⟩ := List.mem_map.1 hc
    have h1 := List.all_eq_true.1 hpin _ hp
    exact ho.pins c' (by simpa using h1) ⟨p, get_of_mem hnd hp⟩
  have pinO : ∀ {c o}, (c, o) ∈ Lout → ρ' c = ρ (sig σ c) := fun hm => pins _ (by rw [← hnames]; exact List.mem_map.2 ⟨_, hm, rfl⟩)
  -- objects that were not handed on
  have other : ∀ {t x}, (∀ c o, (c, o) ∈ Lout → sig σ c ≠ t) → get L t = some x → ∀ b, Blk (ρ t) b → w'.heap[b]? = w.heap[b]? := by
    intro t x hno hx b hb
    refine ho.frame b ((hr.objs t x hx).block hb).2.2 fun s o hs hb' => ?_
    obtain ⟨o', hm⟩ := inOut hs
    exact hr.apart t (sig σ s) x _ b (fun e => hno _ _ hm e.symm) hx (inL hs) hb hb'
  have ownOk : ∀ b, (w.heap.size ≤ b ∨ ∃ t p, get Lin t = some p ∧ Blk (ρ (sig σ t)) b) → C.own b := by
    rintro b (hb | ⟨t, p, ht, hb⟩)
    · exact .inl (Nat.le_trans hr.grow hb)
    · exact ((hr.objs _ _ (inL ht)).block hb).1
  refine ⟨hr.size, (hr.defers.keep fun D hD => ho.frame D (Array.getElem?_eq_some_iff.1 hD).1 fun s o hs hb => (hr.objs _ _ (inL hs)).notDef hb _ hD), fun t av ht => ⟨(hr.fr t av ht).1, (hr.fr t av ht).2.mono ho.ext⟩, ho.heap, ?_, ?_, hr.ext.trans ho.ext, fun b h0 hb => ho.fresh b (hr.fresh b h0 hb) (Nat.lt_of_lt_of_le hb hr.grow),
    ho.os.trans hr.os, ho.tape.trans hr.tape, ho.output.trans hr.output, Nat.le_trans hr.grow ho.grow, ?_, hr.xs, hr.pin, hr.pinlo, ?_⟩
  · intro t x hx
    rcases get_putAll hx with ⟨c, o, hm, rfl, rfl⟩ | ⟨hno, hx'⟩
    · have h1 := ho.objs c o (hsub _ _ (get_of_mem hndo hm))
      rw [pinO hm] at h1
      have h2 := orel_agree (ρ' := fun c => ρ (sig σ c)) (ns := Lin.map (·.1)) (fun n hn => (pins n hn).symm) (List.all_eq_true.1 hin _ hm) h1
      exact orel_ren.1 (h2.own_mono fun b hb => ownOk b (h2.block hb).1)
    · have hb := hr.objs t x hx'
      exact hb.toHeap ho.ext (other hno hx') fun b hbl => ho.fresh b (hb.block hbl).2.1 (hb.block hbl).2.2
  · intro t t' x x' b hne hx hx' hb
    rcases get_putAll hx with ⟨c, o, hm, rfl, rfl⟩ | ⟨hno, hx1⟩
    · rcases get_putAll hx' with ⟨c', o', hm', rfl, rfl⟩ | ⟨hno', hx1'⟩
      · have := ho.apart c c' o o' b (fun e => hne (by rw [e])) (hsub _ _ (get_of_mem hndo hm)) (hsub _ _ (get_of_mem hndo hm')) (by rw [pinO hm]; exact hb)
        rw [pinO hm'] at this; exact this
      · obtain ⟨p, hp⟩ := memIn hm
        exact hr.apart _ _ _ _ b hne (inL hp) hx1' hb
    · rcases get_putAll hx' with ⟨c', o', hm', rfl, rfl⟩ | ⟨hno', hx1'⟩
      · obtain ⟨p, hp⟩ := memIn hm'
        exact hr.apart _ _ _ _ b hne hx1 (inL hp) hb
      · exact hr.apart _ _ _ _ b hne hx1 hx1' hb
  · intro b hb hX
    rw [ho.frame b (Nat.lt_of_lt_of_le hb hr.grow) fun s o hs hbl => ?_]
    · exact hr.frame b hb hX
    · rcases ((hr.objs _ _ (inL hs)).block hbl).1 with h1 | h1
      · omega
      · exact hX h1
  · intro t x b hx hlt hb
    rcases get_putAll hx with ⟨c, o, hm, rfl, rfl⟩ | ⟨hno, hx1⟩
    · obtain ⟨p, hp⟩ := memIn hm
      exact hr.low _ _ b (inL hp) hlt hb
    · exact hr.low _ _ b hx1 hlt hb

variable {Q : Post}
theorem WO_lend {ops : Array Oper} {i j : Nat} {us : List (Option Ty)} {f : Nat} {as : List AV} {d : Nat} {p : Prop} {R : AV} {Lin Lout : LL} (σ : List (Nat × Nat)) (hj : j = i + 1)
    (hc : CallAt C ops i fr us f (as.map (AV.ren (sig σ))) d p) (hp : p) (hF : FnC C.P f as Lin R Lout)
    (hL : keep (Lin.map fun p => sig σ p.1) L = some (Lin.map fun p => (sig σ p.1, p.2.ren (sig σ)))) (hk : (lendOk σ Lin Lout && R.data) = true)
    (hn : WO C ops j Q (putF fr d R) (putAll σ Lout L)) : WO C ops i Q fr L := by
  intro a w ⟨h, ρ, hr⟩
  simp only [Bool.and_eq_true] at hk
  obtain ⟨hk, hR⟩ := hk
  have hk0 := hk
  unfold lendOk at hk0
  simp only [Bool.and_eq_true, decide_eq_true_eq] at hk0
  obtain ⟨⟨⟨⟨hnd, hsnd⟩, _⟩, _⟩, _⟩ := hk0
  have hok := hc.ok
  split at hok
  · rename_i o ho
    split at hok
    · rename_i gd q hg
      obtain ⟨⟨f', as0⟩, hcall, hd⟩ := Option.bind_eq_some_iff.1 hok
      obtain ⟨as', hco, hd⟩ := Option.bind_eq_some_iff.1 hd
      obtain ⟨d', hdst, he⟩ := Option.map_eq_some_iff.1 hd
      simp only [Prod.mk.injEq] at he
      obtain ⟨rfl, rfl, rfl, rfl⟩ := he
      obtain ⟨hw, hgd⟩ := guardIs_spec hr hg hp
      obtain ⟨vs, hrun, hall0⟩ := callOf_spec hr hgd hcall hc.fn
      have hall := coer_spec _ _ _ _ hco hall0
      have hlen : i < ops.toList.length := by
        have := (Array.getElem?_eq_some_iff.1 ho).1; simpa using this
      have hdrop : ops.toList.drop i = o :: ops.toList.drop j := by
        rw [hj, ← List.getElem_cons_drop hlen]
        congr 1
        have := (Array.getElem?_eq_some_iff.1 ho).2
        simpa using this
      rw [hdrop]
      refine wpList_step fun K hK => ?_
      rw [if_pos hw]
      unfold Oper.wp
      rw [hrun, Oper.upon_enter]
      have inL : ∀ {c o}, get Lin c = some o → get L (sig σ c) = some (o.ren (sig σ)) := fun hg => keep_map hL (get_mem _ _ _ hg)
      refine (hF h (fun c => ρ (sig σ c)) w vs hr.heap (fun s o hs => orel_ren.2 ((hr.objs _ _ (inL hs)).own_mono fun _ _ => trivial)) ?_ (all2_vrel_ren hall)).mono ?_
      · intro s s' o1 o2 b hne hs hs' hb
        refine hr.apart (sig σ s) (sig σ s') _ _ b (fun e => hne ?_) (inL hs) (inL hs') hb
        have := nodup_map_inj hsnd (get_mem _ _ _ hs) (get_mem _ _ _ hs') e
        simp only [Prod.mk.injEq] at this
        exact this.1
      · rintro e w' ⟨v, h', ρ', rfl, hrel, hout⟩
        refine hK _ _ (hn _ _ ?_)
        rw [hdst]
        have hr2 := hr.lend hk hL (fun _ _ e => e) hout
        refine ⟨h', ρ, hr2.putSlot d' R v (of_decide_eq_true hc.lt) ?_⟩
        cases R with
        | one x => exact SRel.ofData hR hrel
        | tup xs =>
          obtain ⟨us, rfl, hall2⟩ := hrel
          exact ⟨us, rfl, all2_ofData hR hall2⟩
        | agg _ => simp [AV.data] at hR
        | mb _ _ _ => simp [AV.data] at hR
    · simp at hok
  · simp at hok
end
end Go.Sl

/- Calls that are handed objects, some of which may be laid anew (names from 2000 on). -/
namespace Go.Sl
open Go

def killFs (ms : List Nat) (fr : Fr) : Fr := mapv (fun a => ms.foldr AV.kill a) fr
def killLs (ms : List Nat) (L : LL) : LL := mapv (fun o => ms.foldr LObj.kill o) L

section
variable {h : Heap} {ρ ρ' : Nat → Value}
theorem SRel.kill1 {s : Nat} {x : SV} {v : Value} (e : SRel h ρ x v) : SRel h ρ (x.kill s) v := by
  unfold SV.kill
  split
  · trivial
  · exact e
theorem kills_has {ms : List Nat} {x : SV} : (ms.foldr SV.kill x) = .any ∨ ((ms.foldr SV.kill x) = x ∧ ∀ s, s ∈ ms → x.has s = false) := by
  induction ms with
  | nil => exact .inr ⟨rfl, fun s hs => by simp at hs⟩
  | cons m ms ih =>
    simp only [List.foldr_cons]
    rcases ih with e | ⟨e, hn⟩
    · left; rw [e]; simp [SV.kill, SV.has]
    · rw [e]
      unfold SV.kill
      cases hm : x.has m with
      | true => left; simp
      | false =>
        right
        refine ⟨by simp, fun s hs => ?_⟩
        rcases List.mem_cons.1 hs with rfl | hs
        · exact hm
        · exact hn s hs
theorem srel_off {ms : List Nat} (hn : ∀ t, t ∉ ms → ρ' t = ρ t) {x : SV} {v : Value} (hx : ∀ s, s ∈ ms → x.has s = false) (e : SRel h ρ x v) : SRel h ρ' x v := by
  have ne : ∀ {t : Nat}, (∀ s, s ∈ ms → (t == s) = false) → ρ' t = ρ t := by
    intro t ht
    refine hn t fun hm => ?_
    have := ht t hm
    simp at this
  have refs : ∀ {p : Nat × Nat} {u : Value}, (∀ s, s ∈ ms → (p.1 == s) = false) → Refs ρ p u → Refs ρ' p u := by
    rintro p u hp ⟨b, hb, rfl⟩
    exact ⟨b, by rw [ne hp]; exact hb, rfl⟩
  cases x <;> simp only [SV.has] at hx <;> try exact e
  case sub => simp only [SRel] at e ⊢; rw [ne hx]; exact e
  case rhd => simp only [SRel] at e ⊢; rw [ne hx]; exact e
  · exact refs hx e
  · simp only [SRel] at e ⊢
    rw [ne hx]; exact e
  · simp only [SRel] at e ⊢
    rw [ne hx]; exact e
  · obtain ⟨cs, rfl, hl⟩ := e
    refine ⟨cs, rfl, ?_⟩
    rename_i caps
    induction hl with
    | nil => exact .nil
    | cons h1 _ ih =>
      refine .cons (refs (fun s hs => ?_) h1) (ih fun s hs => ?_)
      · have := hx s hs
        simp only [List.any_cons, Bool.or_eq_false_iff] at this
        exact this.1
      · have := hx s hs
        simp only [List.any_cons, Bool.or_eq_false_iff] at this
        exact this.2
theorem srel_kills {ms : List Nat} (hn : ∀ t, t ∉ ms → ρ' t = ρ t) {x : SV} {v : Value} (e : SRel h ρ x v) : SRel h ρ' (ms.foldr SV.kill x) v := by
  rcases kills_has (ms := ms) (x := x) with k | ⟨k, hx⟩
  · rw [k]; trivial
  · rw [k]; exact srel_off hn hx e
theorem all2_kills {ms : List Nat} (hn : ∀ t, t ∉ ms → ρ' t = ρ t) {l : List SV} {m : List Value} (hl : All2 (SRel h ρ) l m) : All2 (SRel h ρ') (l.map fun x => ms.foldr SV.kill x) m := by
  induction hl with
  | nil => exact .nil
  | cons h1 _ ih => exact .cons (srel_kills hn h1) ih
theorem kills_one {ms : List Nat} {x : SV} : ms.foldr AV.kill (.one x) = .one (ms.foldr SV.kill x) := by
  induction ms with
  | nil => rfl
  | cons m ms ih => simp only [List.foldr_cons, ih]; rfl
theorem kills_agg {ms : List Nat} {l : List SV} : ms.foldr AV.kill (.agg l) = .agg (l.map fun x => ms.foldr SV.kill x) := by
  induction ms with
  | nil => simp
  | cons m ms ih => simp only [List.foldr_cons, ih, AV.kill, List.map_map]; rfl
theorem kills_tup {ms : List Nat} {l : List SV} : ms.foldr AV.kill (.tup l) = .tup (l.map fun x => ms.foldr SV.kill x) := by
  induction ms with
  | nil => simp
  | cons m ms ih => simp only [List.foldr_cons, ih, AV.kill, List.map_map]; rfl
theorem kills_mb {ms : List Nat} {g : Nat} {b : Bool} {x : SV} : ms.foldr AV.kill (.mb g b x) = .mb g b (ms.foldr SV.kill x) := by
  induction ms with
  | nil => rfl
  | cons m ms ih => simp only [List.foldr_cons, ih]; rfl
theorem vrel_kills {ms : List Nat} (hn : ∀ t, t ∉ ms → ρ' t = ρ t) {tm : Array Value} {x : AV} {v : Value} (e : VRel h ρ tm x v) : VRel h ρ' tm (ms.foldr AV.kill x) v := by
  cases x with
  | one x => rw [kills_one]; exact srel_kills hn e
  | agg l =>
    obtain ⟨vs, rfl, hl⟩ := e
    rw [kills_agg]; exact ⟨vs, rfl, all2_kills hn hl⟩
  | tup l =>
    obtain ⟨vs, rfl, hl⟩ := e
    rw [kills_tup]; exact ⟨vs, rfl, all2_kills hn hl⟩
  | mb g b x =>
    rw [kills_mb]
    exact fun ht => srel_kills hn (e ht)
theorem kills_rows {ms : List Nat} {d : Nat} {t : Ty} {xs : List t.den} {hs : List (Int × Bool × SV)} : ms.foldr LObj.kill (.rows d t xs hs) = .rows d t xs (mapHs (fun x => ms.foldr SV.kill x) hs) := by
  induction ms with
  | nil => simp [mapHs]
  | cons m ms ih =>
    rw [List.foldr_cons, ih]
    simp only [LObj.kill, mapHs, List.map_map]
    rfl
theorem kills_obj {ms : List Nat} {o : LObj} : (∃ cs, o = .cells cs ∧ ms.foldr LObj.kill o = .cells (cs.map fun x => ms.foldr SV.kill x)) ∨ (∃ d t xs hs, o = .rows d t xs hs) ∨ ((∀ cs, o ≠ .cells cs) ∧ ms.foldr LObj.kill o = o) := by
  cases o with
  | cells cs =>
    refine .inl ⟨cs, rfl, ?_⟩
    induction ms with
    | nil => simp
    | cons m ms ih => simp only [List.foldr_cons, ih, LObj.kill, List.map_map]; rfl
  | one t x =>
    refine .inr (.inr ⟨fun cs => by simp, ?_⟩)
    induction ms with
    | nil => rfl
    | cons m ms ih => simp only [List.foldr_cons, ih]; rfl
  | seq t x =>
    refine .inr (.inr ⟨fun cs => by simp, ?_⟩)
    induction ms with
    | nil => rfl
    | cons m ms ih => simp only [List.foldr_cons, ih]; rfl
  | map k t x =>
    refine .inr (.inr ⟨fun cs => by simp, ?_⟩)
    induction ms with
    | nil => rfl
    | cons m ms ih => simp only [List.foldr_cons, ih]; rfl
  | que t x =>
    refine .inr (.inr ⟨fun cs => by simp, ?_⟩)
    induction ms with
    | nil => rfl
    | cons m ms ih => simp only [List.foldr_cons, ih]; rfl
  | raw b x =>
    refine .inr (.inr ⟨fun cs => by simp, ?_⟩)
    induction ms with
    | nil => rfl
    | cons m ms ih => simp only [List.foldr_cons, ih]; rfl
  | rows d t xs hs => exact .inr (.inl ⟨d, t, xs, hs, rfl⟩)
theorem orel_kills {ms : List Nat} (hn : ∀ t, t ∉ ms → ρ' t = ρ t) {own : Nat → Prop} {w : World} {q : Value} {o : LObj} (e : ORel own h ρ w q o) : ORel own h ρ' w q (ms.foldr LObj.kill o) := by
  rcases kills_obj (ms := ms) (o := o) with ⟨cs, rfl, k⟩ | ⟨d, t, xs, hs, rfl⟩ | ⟨hno, k⟩
  · rw [k]
    simp only [ORel] at e ⊢
    obtain ⟨b, cur, el, rfl, h1, h2, h3, h4, h5⟩ := e
    exact ⟨b, cur, el, rfl, h1, h2, h3, all2_kills hn h4, h5⟩
  · rw [kills_rows]
    obtain ⟨hd, heads, F, h1, h2, h3, h4⟩ := e
    exact ⟨hd, heads, F, h1, h2, h3, h4.map _ (fun _ _ _ e => e) (fun _ _ e => srel_kills hn e) (fun _ _ => rfl)⟩
  · rw [k]
    cases o with
    | rows d t xs hs => rw [← k, kills_rows]; obtain ⟨hd, heads, F, h1, h2, h3, h4⟩ := e; exact ⟨hd, heads, F, h1, h2, h3, h4.map _ (fun _ _ _ e => e) (fun _ _ e => srel_kills hn e) (fun _ _ => rfl)⟩
    | cells cs => exact (hno cs rfl).elim
    | one t x => exact e
    | seq t x => exact e
    | que t x => exact e
    | map k t x => exact e
    | raw b x => exact e
end

def AV.inN (ns : List Nat) : AV → Bool
  | .one x => x.inN ns
  | .tup xs => xs.all (SV.inN ns)
  | _ => false

/-- the names that may be laid anew, as the caller calls them -/
def movedOf (σ : List (Nat × Nat)) (Lin : LL) : List Nat := (Lin.filter fun p => nameOk p.1).map fun p => sig σ p.1
def lendOk2 (σ : List (Nat × Nat)) (Lin Lout : LL) : Bool :=
  decide ((Lin.map (·.1)).Nodup) && decide ((Lin.map fun p => sig σ p.1).Nodup) && decide (Lout.map (·.1) = Lin.map (·.1)) && Lout.all (fun p => p.2.inN (Lin.map (·.1))) &&
  ((movedOf σ Lin).all (fun s => decide (s < 1000)) || (movedOf σ Lin).all (fun s => decide (2000 ≤ s)))

theorem get_killLs {ms : List Nat} {L : LL} {t : Nat} : get (killLs ms L) t = (get L t).map fun o => ms.foldr LObj.kill o := get_mapv _ _ _
theorem get_killFs {ms : List Nat} {fr : Fr} {t : Nat} : get (killFs ms fr) t = (get fr t).map fun o => ms.foldr AV.kill o := get_mapv _ _ _

section
variable {C : Ctx} {h : Heap} {ρ : Nat → Value} {fr : Fr} {L : LL} {a : Act} {w : World}

theorem RelH.lend2 (hr : RelH C h ρ fr L a w) {σ : List (Nat × Nat)} {Lin Lout Lall : LL} {h' : Heap} {ρ' : Nat → Value} {w' : World} (hk : lendOk2 σ Lin Lout = true)
    (hL : keep (Lin.map fun p => sig σ p.1) L = some (Lin.map fun p => (sig σ p.1, p.2.ren (sig σ)))) (hsub : ∀ c o, get Lout c = some o → get Lall c = some o)
    (ho : Out h (fun c => ρ (sig σ c)) w Lin h' ρ' w' Lall) :
    ∃ ρ2 : Nat → Value, (∀ c, c ∈ Lin.map (·.1) → ρ2 (sig σ c) = ρ' c) ∧ RelH C h' ρ2 (killFs (movedOf σ Lin) fr) (putAll σ Lout (killLs (movedOf σ Lin) L)) a w' := by
  unfold lendOk2 at hk
  simp only [Bool.and_eq_true, decide_eq_true_eq] at hk
  obtain ⟨⟨⟨⟨hnd, hsnd⟩, hnames⟩, hin⟩, hmv⟩ := hk
  have inL : ∀ {c o}, get Lin c = some o → get L (sig σ c) = some (o.ren (sig σ)) := fun hg => keep_map hL (get_mem _ _ _ hg)
  have hndo : (Lout.map (·.1)).Nodup := by rw [hnames]; exact hnd
  have memIn : ∀ {c o}, (c, o) ∈ Lout → ∃ p, get Lin c = some p := by
    intro c o hm
    have : c ∈ Lin.map (·.1) := by rw [← hnames]; exact List.mem_map.2 ⟨(c, o), hm, rfl⟩
    obtain ⟨⟨c', p⟩, hp, rfl⟩ := List.mem_map.1 this
    exact ⟨p, get_of_mem hnd hp⟩
  have inOut : ∀ {c p}, get Lin c = some p → ∃ o, (c, o) ∈ Lout := by
    intro c p hg
    have : c ∈ Lout.map (·.1) := by rw [hnames]; exact List.mem_map.2 ⟨(c, p), get_mem _ _ _ hg, rfl⟩
    obtain ⟨⟨c', o⟩, hp, rfl⟩ := List.mem_map.1 this
    exact ⟨o, hp⟩
  have inj : ∀ {c c'}, c ∈ Lin.map (·.1) → c' ∈ Lin.map (·.1) → sig σ c = sig σ c' → c = c' := by
    intro c c' hc hc' e
    obtain ⟨⟨_, p⟩, hp, rfl⟩ := List.mem_map.1 hc
    obtain ⟨⟨_, p'⟩, hp', rfl⟩ := List.mem_map.1 hc'
    have := nodup_map_inj hsnd hp hp' e
    exact congrArg Prod.fst this
  let ρ2 : Nat → Value := fun t => match (Lin.map (·.1)).find? (fun c => sig σ c == t) with
    | some c => ρ' c
    | none => ρ t
  have r1 : ∀ c, c ∈ Lin.map (·.1) → ρ2 (sig σ c) = ρ' c := by
    intro c hc
    show (match (Lin.map (·.1)).find? (fun c' => sig σ c' == sig σ c) with | some c => ρ' c | none => ρ (sig σ c)) = _
    cases hf : (Lin.map (·.1)).find? (fun c' => sig σ c' == sig σ c) with
    | none =>
      have := List.find?_eq_none.1 hf c hc
      simp at this
    | some c' =>
      have h1 := List.find?_some hf
      have h2 := List.mem_of_find?_eq_some hf
      have : c' = c := inj h2 hc (by simpa using h1)
      rw [this]
  have r0 : ∀ t, (∀ c, c ∈ Lin.map (·.1) → sig σ c ≠ t) → ρ2 t = ρ t := by
    intro t ht
    show (match (Lin.map (·.1)).find? (fun c' => sig σ c' == t) with | some c => ρ' c | none => ρ t) = _
    cases hf : (Lin.map (·.1)).find? (fun c' => sig σ c' == t) with
    | none => rfl
    | some c' =>
      have h1 := List.find?_some hf
      exact (ht c' (List.mem_of_find?_eq_some hf) (by simpa using h1)).elim
  have pinned : ∀ {c p}, get Lin c = some p → nameOk c = false → ρ' c = ρ (sig σ c) := fun hg hc => ho.pins _ hc ⟨_, hg⟩
  have moved : ∀ {c p}, get Lin c = some p → nameOk c = true → sig σ c ∈ movedOf σ Lin := by
    intro c p hg hc
    unfold movedOf
    exact List.mem_map.2 ⟨(c, p), List.mem_filter.2 ⟨get_mem _ _ _ hg, hc⟩, rfl⟩
  have off : ∀ t, t ∉ movedOf σ Lin → ρ2 t = ρ t := by
    intro t ht
    by_cases hc : ∃ c, c ∈ Lin.map (·.1) ∧ sig σ c = t
    · obtain ⟨c, hc, rfl⟩ := hc
      rw [r1 c hc]
      obtain ⟨⟨c', p⟩, hp, rfl⟩ := List.mem_map.1 hc
      have hg := get_of_mem hnd hp
      refine pinned hg ?_
      cases hn : nameOk c' with
      | false => rfl
      | true => exact (ht (moved hg hn)).elim
    · exact r0 t fun c hc' e => hc ⟨c, hc', e⟩
  have other : ∀ {t x}, (∀ c o, (c, o) ∈ Lout → sig σ c ≠ t) → get L t = some x → ∀ b, Blk (ρ t) b → w'.heap[b]? = w.heap[b]? := by
    intro t x hno hx b hb
    refine ho.frame b ((hr.objs t x hx).block hb).2.2 fun s o hs hb' => ?_
    obtain ⟨o', hm⟩ := inOut hs
    exact hr.apart t (sig σ s) x _ b (fun e => hno _ _ hm e.symm) hx (inL hs) hb hb'
  have offL : ∀ {t}, (∀ c o, (c, o) ∈ Lout → sig σ c ≠ t) → ρ2 t = ρ t := by
    intro t hno
    refine r0 t fun c hc => ?_
    obtain ⟨⟨c', p⟩, hp, rfl⟩ := List.mem_map.1 hc
    obtain ⟨o, hm⟩ := inOut (get_of_mem hnd hp)
    exact hno _ _ hm
  have nmOut : ∀ {c o}, (c, o) ∈ Lout → c ∈ Lin.map (·.1) := fun hm => by rw [← hnames]; exact List.mem_map.2 ⟨_, hm, rfl⟩
  have ownOk : ∀ b, (w.heap.size ≤ b ∨ ∃ t p, get Lin t = some p ∧ Blk (ρ (sig σ t)) b) → C.own b := by
    rintro b (hb | ⟨t, p, ht, hb⟩)
    · exact .inl (Nat.le_trans hr.grow hb)
    · exact ((hr.objs _ _ (inL ht)).block hb).1
  refine ⟨ρ2, r1, hr.size, (hr.defers.keep fun D hD => ho.frame D (Array.getElem?_eq_some_iff.1 hD).1 fun s o hs hb => (hr.objs _ _ (inL hs)).notDef hb _ hD), ?_, ho.heap, ?_, ?_, hr.ext.trans ho.ext, fun b h0 hb => ho.fresh b (hr.fresh b h0 hb) (Nat.lt_of_lt_of_le hb hr.grow),
    ho.os.trans hr.os, ho.tape.trans hr.tape, ho.output.trans hr.output, Nat.le_trans hr.grow ho.grow, ?_, hr.xs, ?_, hr.pinlo, ?_⟩
  · intro t av ht
    rw [get_killFs] at ht
    obtain ⟨av0, h0, rfl⟩ := Option.map_eq_some_iff.1 ht
    have := hr.fr t av0 h0
    exact ⟨this.1, vrel_kills off (this.2.mono ho.ext)⟩
  · intro t x hx
    rcases get_putAll hx with ⟨c, o, hm, rfl, rfl⟩ | ⟨hno, hx'⟩
    · have h1 := ho.objs c o (hsub _ _ (get_of_mem hndo hm))
      rw [r1 c (nmOut hm)]
      have h2 := orel_agree (ρ' := fun c => ρ2 (sig σ c)) (ns := Lin.map (·.1)) (fun n hn => r1 n hn) (List.all_eq_true.1 hin _ hm) h1
      exact orel_ren.1 (h2.own_mono fun b hb => ownOk b (h2.block hb).1)
    · rw [get_killLs] at hx'
      obtain ⟨x0, hx0, rfl⟩ := Option.map_eq_some_iff.1 hx'
      rw [offL hno]
      have hb := hr.objs t x0 hx0
      exact orel_kills off (hb.toHeap ho.ext (other hno hx0) fun b hbl => ho.fresh b (hb.block hbl).2.1 (hb.block hbl).2.2)
  · have lentOther : ∀ {c o t x b}, (c, o) ∈ Lout → (∀ c o, (c, o) ∈ Lout → sig σ c ≠ t) → get L t = some x → Blk (ρ' c) b → ¬ Blk (ρ t) b := by
      intro c o t x b hm hno hx hb ht
      have h1 := (ho.objs c o (hsub _ _ (get_of_mem hndo hm))).block hb
      rcases h1.1 with hge | ⟨s, p, hs, hbs⟩
      · have := ((hr.objs t x hx).block ht).2.2
        omega
      · obtain ⟨o', hm'⟩ := inOut hs
        exact hr.apart (sig σ s) t _ x b (hno _ _ hm') (inL hs) hx hbs ht
    intro t t' x x' b hne hx hx' hb hb'
    rcases get_putAll hx with ⟨c, o, hm, rfl, rfl⟩ | ⟨hno, hx1⟩
    · rw [r1 c (nmOut hm)] at hb
      rcases get_putAll hx' with ⟨c', o', hm', rfl, rfl⟩ | ⟨hno', hx1'⟩
      · rw [r1 c' (nmOut hm')] at hb'
        exact ho.apart c c' o o' b (fun e => hne (by rw [e])) (hsub _ _ (get_of_mem hndo hm)) (hsub _ _ (get_of_mem hndo hm')) hb hb'
      · rw [offL hno'] at hb'
        rw [get_killLs] at hx1'
        obtain ⟨x0, hx0, rfl⟩ := Option.map_eq_some_iff.1 hx1'
        exact lentOther hm hno' hx0 hb hb'
    · rw [offL hno] at hb
      rw [get_killLs] at hx1
      obtain ⟨x0, hx0, rfl⟩ := Option.map_eq_some_iff.1 hx1
      rcases get_putAll hx' with ⟨c', o', hm', rfl, rfl⟩ | ⟨hno', hx1'⟩
      · rw [r1 c' (nmOut hm')] at hb'
        exact lentOther hm' hno hx0 hb' hb
      · rw [offL hno'] at hb'
        rw [get_killLs] at hx1'
        obtain ⟨x0', hx0', rfl⟩ := Option.map_eq_some_iff.1 hx1'
        exact hr.apart _ _ _ _ b hne hx0 hx0' hb hb'
  · intro b hb hX
    rw [ho.frame b (Nat.lt_of_lt_of_le hb hr.grow) fun s o hs hbl => ?_]
    · exact hr.frame b hb hX
    · rcases ((hr.objs _ _ (inL hs)).block hbl).1 with h1 | h1
      · omega
      · exact hX h1
  · intro s v hs
    rw [off s fun hm => ?_]
    · exact hr.pin s v hs
    · have hok : nameOk s = true := by
        rcases Bool.or_eq_true_iff.1 hmv with h1 | h1
        · have := List.all_eq_true.1 h1 s hm
          simp only [decide_eq_true_eq] at this
          simp [nameOk, this]
        · have := List.all_eq_true.1 h1 s hm
          simp only [decide_eq_true_eq] at this
          simp [nameOk, this]
      have := hr.pinlo s hok
      rw [this] at hs; cases hs
  · intro t x b hx hlt hb
    rcases get_putAll hx with ⟨c, o, hm, rfl, rfl⟩ | ⟨hno, hx1⟩
    · rw [r1 c (nmOut hm)] at hb
      obtain ⟨p, hp⟩ := memIn hm
      cases hn : nameOk c with
      | false =>
        rw [pinned hp hn] at hb
        exact hr.low _ _ b (inL hp) hlt hb
      | true =>
        have hmem := moved hp hn
        have hall : (movedOf σ Lin).all (fun s => decide (s < 1000)) = true := by
          rcases Bool.or_eq_true_iff.1 hmv with h1 | h1
          · exact h1
          · have := List.all_eq_true.1 h1 _ hmem
            simp only [decide_eq_true_eq] at this
            omega
        have h1 := (ho.objs c o (hsub _ _ (get_of_mem hndo hm))).block hb
        rcases h1.1 with hge | ⟨s, q, hs, hbs⟩
        · exact Nat.le_trans hr.grow hge
        · cases hns : nameOk s with
          | true =>
            have hms := List.all_eq_true.1 hall _ (moved hs hns)
            simp only [decide_eq_true_eq] at hms
            exact hr.low _ _ b (inL hs) hms hbs
          | false =>
            exfalso
            obtain ⟨o', hm'⟩ := inOut hs
            have hbs' : Blk (ρ' s) b := by rw [pinned hs hns]; exact hbs
            have hsc : s ≠ c := by rintro rfl; rw [hn] at hns; cases hns
            exact ho.apart s c o' o b hsc (hsub _ _ (get_of_mem hndo hm')) (hsub _ _ (get_of_mem hndo hm)) hbs' hb
    · rw [offL hno] at hb
      rw [get_killLs] at hx1
      obtain ⟨x0, hx0, rfl⟩ := Option.map_eq_some_iff.1 hx1
      exact hr.low _ _ b hx0 hlt hb

theorem srel_result {ρ2 ρ' : Nat → Value} {f : Nat → Nat} {ns : List Nat} (hn : ∀ n, n ∈ ns → ρ2 (f n) = ρ' n) {x : SV} {v : Value} (hx : x.inN ns = true) (e : SRel h ρ' x v) : SRel h ρ2 (x.ren f) v :=
  srel_ren.1 (srel_agree (ρ' := fun c => ρ2 (f c)) hn hx e)
theorem all2_result {ρ2 ρ' : Nat → Value} {f : Nat → Nat} {ns : List Nat} (hn : ∀ n, n ∈ ns → ρ2 (f n) = ρ' n) {l : List SV} {m : List Value} (hx : l.all (SV.inN ns) = true) (e : All2 (SRel h ρ') l m) : All2 (SRel h ρ2) (l.map (SV.ren f)) m := by
  induction e with
  | nil => exact .nil
  | cons h1 _ ih =>
    simp only [List.all_cons, Bool.and_eq_true] at hx
    exact .cons (srel_result hn hx.1 h1) (ih hx.2)

variable {Q : Post}
theorem WO_lend2 {ops : Array Oper} {i j : Nat} {us : List (Option Ty)} {f : Nat} {as : List AV} {d : Nat} {p : Prop} {R : AV} {Lin Lout : LL} (σ : List (Nat × Nat)) (hj : j = i + 1)
    (hc : CallAt C ops i fr us f (as.map (AV.ren (sig σ))) d p) (hp : p) (hF : FnC C.P f as Lin R Lout)
    (hL : keep (Lin.map fun p => sig σ p.1) L = some (Lin.map fun p => (sig σ p.1, p.2.ren (sig σ)))) (hk : (lendOk2 σ Lin Lout && R.inN (Lin.map (·.1))) = true)
    (hn : WO C ops j Q (putF (killFs (movedOf σ Lin) fr) d (R.ren (sig σ))) (putAll σ Lout (killLs (movedOf σ Lin) L))) : WO C ops i Q fr L := by
  intro a w ⟨h, ρ, hr⟩
  simp only [Bool.and_eq_true] at hk
  obtain ⟨hk, hR⟩ := hk
  have hk0 := hk
  unfold lendOk2 at hk0
  simp only [Bool.and_eq_true, decide_eq_true_eq] at hk0
  obtain ⟨⟨⟨⟨hnd, hsnd⟩, _⟩, _⟩, _⟩ := hk0
  have hok := hc.ok
  split at hok
  · rename_i o ho
    split at hok
    · rename_i gd q hg
      obtain ⟨⟨f', as0⟩, hcall, hd⟩ := Option.bind_eq_some_iff.1 hok
      obtain ⟨as', hco, hd⟩ := Option.bind_eq_some_iff.1 hd
      obtain ⟨d', hdst, he⟩ := Option.map_eq_some_iff.1 hd
      simp only [Prod.mk.injEq] at he
      obtain ⟨rfl, rfl, rfl, rfl⟩ := he
      obtain ⟨hw, hgd⟩ := guardIs_spec hr hg hp
      obtain ⟨vs, hrun, hall0⟩ := callOf_spec hr hgd hcall hc.fn
      have hall := coer_spec _ _ _ _ hco hall0
      have hlen : i < ops.toList.length := by
        have := (Array.getElem?_eq_some_iff.1 ho).1; simpa using this
      have hdrop : ops.toList.drop i = o :: ops.toList.drop j := by
        rw [hj, ← List.getElem_cons_drop hlen]
        congr 1
        have := (Array.getElem?_eq_some_iff.1 ho).2
        simpa using this
      rw [hdrop]
      refine wpList_step fun K hK => ?_
      rw [if_pos hw]
      unfold Oper.wp
      rw [hrun, Oper.upon_enter]
      have inL : ∀ {c o}, get Lin c = some o → get L (sig σ c) = some (o.ren (sig σ)) := fun hg => keep_map hL (get_mem _ _ _ hg)
      refine (hF h (fun c => ρ (sig σ c)) w vs hr.heap (fun s o hs => orel_ren.2 ((hr.objs _ _ (inL hs)).own_mono fun _ _ => trivial)) ?_ (all2_vrel_ren hall)).mono ?_
      · intro s s' o1 o2 b hne hs hs' hb
        refine hr.apart (sig σ s) (sig σ s') _ _ b (fun e => hne ?_) (inL hs) (inL hs') hb
        have := nodup_map_inj hsnd (get_mem _ _ _ hs) (get_mem _ _ _ hs') e
        simp only [Prod.mk.injEq] at this
        exact this.1
      · rintro e w' ⟨v, h', ρ', rfl, hrel, hout⟩
        refine hK _ _ (hn _ _ ?_)
        rw [hdst]
        obtain ⟨ρ2, hρ, hr2⟩ := hr.lend2 hk hL (fun _ _ e => e) hout
        refine ⟨h', ρ2, hr2.putSlot d' _ v (of_decide_eq_true hc.lt) ?_⟩
        cases R with
        | one x => exact srel_result hρ hR hrel
        | tup xs =>
          obtain ⟨us, rfl, hall2⟩ := hrel
          exact ⟨us, rfl, all2_result hρ hR hall2⟩
        | agg _ => simp [AV.inN] at hR
        | mb _ _ _ => simp [AV.inN] at hR
    · simp at hok
  · simp at hok
end

/-- a nil slice in a cell, as an object that can grow -/
def cellOwn (L : LL) (s i t : Nat) (u : Ty) : Option LL :=
  match get L s with
  | some (.cells cs) => match cs[i]? with
    | some .nilS => if t < 1000 ∧ s ≠ t then some (put (newL t (.seq u []) L) s (.cells ((cs.map (SV.kill t)).set i (.slc t)))) else none
    | _ => none
  | _ => none
def cellOwnT (L : LL) (s i t : Nat) (u : Ty) : LL := (cellOwn L s i t u).getD L
section
variable {C : Ctx} {fr : Fr} {L : LL} {a : Act} {w : World}
theorem Rel.cellOwn {s i t : Nat} {u : Ty} {L' : LL} (hr : Rel C fr L a w) (h : Sl.cellOwn L s i t u = some L') : Rel C (killF t fr) L' a w := by
  unfold Sl.cellOwn at h
  split at h
  · rename_i cs hs
    split at h
    · rename_i hx
      split at h
      · rename_i hc
        simp only [Option.some.injEq] at h; subst h
        obtain ⟨hh, ρ, hr⟩ := hr
        have hnm : nameOk t = true := by simp [nameOk, hc.1]
        have hnew := hr.fresh_name t hnm (.slice none 0 0) (.seq u []) w rfl rfl rfl (Nat.le_refl _) none (fun b hb => by cases hb) (fun _ _ _ => rfl) (.inl ⟨rfl, rfl⟩) (fun b hb => by simp [Blk] at hb) (fun _ b hb => by simp [Blk] at hb)
        have hs2 : get (newL t (.seq u []) L) s = some (.cells (cs.map (SV.kill t))) := by
          rw [get_newL, if_neg (fun e => hc.2 e.symm), hs]; rfl
        have hx2 : (cs.map (SV.kill t))[i]? = some .nilS := by
          rw [List.getElem?_map, hx]; rfl
        refine ⟨hh, _, { hnew with objs := fun r o ho => ?_, apart := fun r r' o o' b hne ho ho' => ?_, low := fun r o b ho => ?_ }⟩
        · rw [get_put] at ho
          split at ho
          · rename_i hst; subst hst
            simp only [Option.some.injEq] at ho; subst ho
            obtain ⟨b, cur, e, h1, h2, h3, h4, h5, h6⟩ := hnew.objs _ _ hs2
            refine ⟨b, cur, e, h1, h2, h3, h4, all2_set i h5 hx2 fun v hv => ?_, h6⟩
            have hv : v = .slice none 0 0 := hv
            subst hv
            exact ⟨by simp [upd]; rfl, rfl⟩
          · exact hnew.objs r o ho
        · have key : ∀ r o, get (put (newL t (.seq u []) L) s (.cells ((cs.map (SV.kill t)).set i (.slc t)))) r = some o → ∃ o', get (newL t (.seq u []) L) r = some o' := by
            intro r o ho
            rw [get_put] at ho
            split at ho
            · rename_i hst; subst hst; exact ⟨_, hs2⟩
            · exact ⟨o, ho⟩
          obtain ⟨p, hp⟩ := key _ _ ho
          obtain ⟨p', hp'⟩ := key _ _ ho'
          exact hnew.apart r r' p p' b hne hp hp'
        · rw [get_put] at ho
          split at ho
          · rename_i hst; subst hst; exact hnew.low _ _ b hs2
          · exact hnew.low r o b ho
      · cases h
    · cases h
  · cases h
variable {Q : Post} {c : Code} {ops : Array Oper} {e : Exit}
theorem W_cellown (s i t : Nat) (u : Ty) (h : (cellOwn L s i t u).isSome = true) (hw : W C c Q (killF t fr) (cellOwnT L s i t u)) : W C c Q fr L := by
  obtain ⟨f, hf⟩ := Option.isSome_iff_exists.1 h
  unfold cellOwnT at hw; rw [hf] at hw
  exact fun a w hr => hw a w (hr.cellOwn hf)
theorem WO_cellown {j : Nat} (s i t : Nat) (u : Ty) (h : (cellOwn L s i t u).isSome = true) (hw : WO C ops j Q (killF t fr) (cellOwnT L s i t u)) : WO C ops j Q fr L := by
  obtain ⟨f, hf⟩ := Option.isSome_iff_exists.1 h
  unfold cellOwnT at hw; rw [hf] at hw
  exact fun a w hr => hw a w (hr.cellOwn hf)
theorem LT_cellown (s i t : Nat) (u : Ty) (h : (cellOwn L s i t u).isSome = true) (hw : LT C Q e (killF t fr) (cellOwnT L s i t u)) : LT C Q e fr L := by
  obtain ⟨f, hf⟩ := Option.isSome_iff_exists.1 h
  unfold cellOwnT at hw; rw [hf] at hw
  exact fun a w hr => hw a w (hr.cellOwn hf)
end
end Go.Sl

/- Regions that draw their order, once more: operations with known guards, and calls that are handed no object. -/
namespace Go.Sl
open Go
section
variable {C : Ctx} {fr : Fr} {L : LL}

/-- what an operation does, whatever else has been done before it -/
def Drawn (C : Ctx) (ops : Array Oper) (i : Nat) (d : Nat) (av : AV) (frI : Fr) (L : LL) : Prop :=
  ∀ (h : Heap) (ρ : Nat → Value) (a : Act) (w : World), RelH C h ρ frI L a w → ∀ (Q : Exit → Act → World → Prop) (K : Act → World → Prop),
    (∀ (h' : Heap) (v : Value) (w' : World), Ext h h' → (∀ frx Lx, (∀ s o, get L s = some o → get Lx s = some o) → RelH C h ρ frx Lx a w → RelH C h' ρ frx Lx a w') → VRel h' ρ (a.tmps.setIfInBounds d v) av v → K (a.put (some d) v) w') → wpOp C.P ops Q i K a w

theorem W_drawG {B : Code} {p : List Nat} {Q : Post} {fr' : Fr} {L' : LL} (m : Nat) (orcs : List (Nat × Orc)) (kF kL : List Nat) {out : List (Nat × AV)} {obs2 : List Prop} (hdr : isDraw (nav B p) = true)
    (hm : C.P.follows .mixedOrders = true) (hok : (drawOk (opsOf (nav B p)) m && dstOk C.n (opsOf (nav B p)) && once fr) = true) (houtlen : out.length = m)
    (hent0 : ∀ i o, i < m → (opsOf (nav B p))[i]? = some o → ∃ d av, o.dst = some d ∧ out[i]? = some (d, av) ∧ Drawn C (opsOf (nav B p)) i d av (pick (out.take i) (edgesOf o) ++ baseFr (opsOf (nav B p)) m fr) L ∧
      (∀ g b x, av = .mb g b x → ∃ j, o.guard = some (j, b) ∧ guardSlot (opsOf (nav B p)) j = some g))
    (htail : (match run C.P (opsOf (nav B p)) orcs m ((opsOf (nav B p)).toList.drop m) (out ++ baseFr (opsOf (nav B p)) m fr) L with | some (f, l, ob) => (restr kF kL f l).map fun r => (r.1, r.2, ob) | none => none) = some (fr', L', obs2)) (ho2 : AllP obs2)
    (hn : Q .normal fr' L') : W C (nav B p) Q fr L := by
  simp only [Bool.and_eq_true] at hok
  obtain ⟨⟨hok, hdok⟩, honce⟩ := hok
  generalize hops : opsOf (nav B p) = ops at *
  intro a w hr
  cases hc : nav B p <;> simp only [hc, isDraw, Bool.false_eq_true] at hdr
  rename_i id ops' d
  rw [hc] at hops
  simp only [opsOf] at hops
  simp only [Bool.and_eq_true] at hdr
  obtain ⟨hdr, hpl⟩ := hdr
  subst hops hdr
  split at htail
  · rename_i f l ob hrun
    obtain ⟨⟨f', l'⟩, hre, hee⟩ := Option.map_eq_some_iff.1 htail
    simp only [Prod.mk.injEq] at hee
    obtain ⟨rfl, rfl, rfl⟩ := hee
    have hmle : m ≤ ops'.size := by
      unfold drawOk at hok
      simp only [Bool.and_eq_true, decide_eq_true_eq] at hok
      exact hok.1.1
    have hnodup : ((ops'.toList.take m).filterMap (·.dst)).Nodup := by
      unfold drawOk at hok
      simp only [Bool.and_eq_true, decide_eq_true_eq] at hok
      exact hok.2
    have hent : ∀ i o, i < m → ops'[i]? = some o → ∃ d av, o.dst = some d ∧ out[i]? = some (d, av) ∧ Drawn C ops' i d av (pick (out.take i) (edgesOf o) ++ baseFr ops' m fr) L ∧
      (∀ g b x, av = .mb g b x → ∃ j, o.guard = some (j, b) ∧ guardSlot ops' j = some g) := hent0
    -- two quiet operations write two slots
    have hdist : ∀ i j d av av', i < m → j < m → out[i]? = some (d, av) → out[j]? = some (d, av') → i = j := by
      intro i j d av av' hi hj h1 h2
      have key : ∀ k, k < m → ∃ o, ops'[k]? = some o ∧ ∃ d av, o.dst = some d ∧ out[k]? = some (d, av) := by
        intro k hk
        refine ⟨ops'[k], Array.getElem?_eq_getElem (by omega), ?_⟩
        obtain ⟨d, av, h1, h2, _⟩ := hent k _ hk (Array.getElem?_eq_getElem (by omega))
        exact ⟨d, av, h1, h2⟩
      have hds : (ops'.toList.take m).filterMap (·.dst) = out.map (·.1) := by
        apply List.ext_getElem?
        intro k
        have hall : ∀ o ∈ ops'.toList.take m, o.dst.isSome = true := by
          intro o ho
          obtain ⟨k, hk, rfl⟩ := List.getElem_of_mem ho
          have hkm : k < m := by simp at hk; omega
          obtain ⟨o', ho', d, av, hd, _⟩ := key k hkm
          have : ops'[k]? = some ops'[k] := Array.getElem?_eq_getElem (by omega)
          rw [this] at ho'
          obtain rfl := Option.some.inj ho'
          simp [hd]
        have hfm : ∀ (l : List Oper), (∀ o ∈ l, o.dst.isSome = true) → l.filterMap (·.dst) = l.map fun o => o.dst.getD 0 := by
          intro l
          induction l with
          | nil => intro _; rfl
          | cons o l ih =>
            intro hl
            have := hl o (by simp)
            cases hod : o.dst with
            | none => rw [hod] at this; simp at this
            | some d => simp [hod, ih (fun x hx => hl x (by simp [hx]))]
        rw [hfm _ hall]
        by_cases hk : k < m
        · obtain ⟨o', ho', d, av, hd, hout⟩ := key k hk
          simp [List.getElem?_take_of_lt hk, ho', hd, hout]
        · rw [List.getElem?_eq_none (by simp; omega), List.getElem?_eq_none (by simp; omega)]
      rw [hds] at hnodup
      have hi' : i < (out.map (·.1)).length := by simp; omega
      have hj' : j < (out.map (·.1)).length := by simp; omega
      have e1 : (out.map (·.1))[i] = d := by
        have : (out.map (·.1))[i]? = some d := by simp [h1]
        rw [List.getElem?_eq_getElem hi'] at this
        exact Option.some.inj this
      have e2 : (out.map (·.1))[j] = d := by
        have : (out.map (·.1))[j]? = some d := by simp [h2]
        rw [List.getElem?_eq_getElem hj'] at this
        exact Option.some.inj this
      exact (List.getElem_inj hnodup).1 (e1.trans e2.symm)
    have hdstin : ∀ i d av, i < m → out[i]? = some (d, av) → d ∈ (ops'.toList.take m).filterMap (·.dst) := by
      intro i d av hi h1
      obtain ⟨d', av', h2, h3, _⟩ := hent i ops'[i] hi (Array.getElem?_eq_getElem (by omega))
      rw [h1] at h3
      simp only [Option.some.injEq, Prod.mk.injEq] at h3
      obtain ⟨rfl, rfl⟩ := h3
      refine List.mem_filterMap.2 ⟨ops'[i], ?_, h2⟩
      rw [List.mem_iff_getElem?]
      exact ⟨i, by rw [List.getElem?_take_of_lt hi]; simp⟩
    -- the quiet phase
    have quiet : ∀ (fuel : Nat) (listed : Array Bool) (a : Act) (w : World), listed.size = ops'.size → (∀ i, m ≤ i → i < ops'.size → listed.getD i false = false) →
        (∀ i o, i < m → ops'[i]? = some o → listed.getD i false = true → ∀ j ∈ edgesOf o, listed.getD j false = true) →
        (∃ h ρ, Half C m (baseFr ops' m fr) L out listed h ρ a w) → ops'.size ≤ fuel + ((List.range ops'.size).filter fun i => listed.getD i false).length → wpAny C.P .any ops' (lift C (normQ Q)) fuel listed a w := by
      intro fuel
      induction fuel with
      | zero =>
        intro listed a w hls htl hdc ⟨h, ρ, hhalf⟩ hcount
        -- all is listed
        have hall : ∀ i, i < ops'.size → listed.getD i false = true := by
          intro i hi
          have hlen : ((List.range ops'.size).filter fun i => listed.getD i false).length = (List.range ops'.size).length := by
            have := List.length_filter_le (fun i => listed.getD i false) (List.range ops'.size)
            simp at this hcount ⊢; omega
          have := List.length_filter_eq_length_iff.1 hlen i (by simpa using hi)
          simpa using this
        have hms : m = ops'.size := by
          rcases Nat.lt_or_ge m ops'.size with hlt | hge
          · have := htl m (Nat.le_refl _) hlt; rw [hall m hlt] at this; cases this
          · omega
        have hrelF := hhalf.frame out (fun x hx => by
          obtain ⟨j, hj, rfl⟩ := List.getElem_of_mem hx
          exact ⟨j, by omega, hall j (by omega), List.getElem?_eq_getElem hj⟩)
        exact draw_tail hok hdok 0 m _ L f l ob listed a w (by omega) (Nat.le_refl _) hls (fun i hi => by rw [hall i hi]; symm; exact decide_eq_true (by omega)) ⟨h, ρ, hrelF⟩ hrun ho2
          (fun a' w' hr' => ⟨f', l', hr'.keep (restr_spec hre).1 (restr_spec hre).2, rfl, hn⟩) 0 (Nat.le_refl _)
      | succ fuel ih =>
        intro listed a w hls htl hdc ⟨h, ρ, hhalf⟩ hcount
        by_cases hdone : ∀ i, i < m → listed.getD i false = true
        · -- over to the tail
          have hrelF := hhalf.frame out (fun x hx => by
            obtain ⟨j, hj, rfl⟩ := List.getElem_of_mem hx
            exact ⟨j, by omega, hdone j (by omega), List.getElem?_eq_getElem hj⟩)
          have hlk : ∀ i, i < ops'.size → listed.getD i false = decide (i < m) := by
            intro i hi
            by_cases him : i < m
            · rw [hdone i him]; simp [him]
            · rw [htl i (by omega) hi]; simp [him]
          have hcnt : ((List.range ops'.size).filter fun i => listed.getD i false).length ≤ m := by
            have h1 : (List.range ops'.size).filter (fun i => listed.getD i false) = (List.range ops'.size).filter (fun i => decide (i < m)) := by
              apply List.filter_congr
              intro i hi
              exact hlk i (by simpa using hi)
            rw [h1]
            have h2 : (List.range ops'.size).filter (fun i => decide (i < m)) = List.range m := by
              have : ops'.size = m + (ops'.size - m) := by omega
              rw [this, List.range_add, List.filter_append]
              have e1 : (List.range m).filter (fun i => decide (i < m)) = List.range m := List.filter_eq_self.2 (by simp)
              have e2 : ((List.range (ops'.size - m)).map (m + ·)).filter (fun i => decide (i < m)) = [] := List.filter_eq_nil_iff.2 (by simp)
              rw [e1, e2]; simp
            rw [h2]; simp
          exact draw_tail hok hdok (ops'.size - m) m _ L f l ob listed a w (by omega) (Nat.le_refl _) hls hlk ⟨h, ρ, hrelF⟩ hrun ho2
            (fun a' w' hr' => ⟨f', l', hr'.keep (restr_spec hre).1 (restr_spec hre).2, rfl, hn⟩) (fuel + 1) (by omega)
        · -- some quiet operation is still to come
          obtain ⟨i0, hi0, hi0l⟩ : ∃ i, i < m ∧ listed.getD i false = false := by
            simp only [Classical.not_forall, Bool.not_eq_true] at hdone
            obtain ⟨i, hi, hil⟩ := hdone; exact ⟨i, hi, hil⟩
          have gd : ∀ i b, i < ops'.size → listed.getD i b = listed.getD i false := by
            intro i b hi
            rw [Array.getD_eq_getD_getElem?, Array.getD_eq_getD_getElem?, Array.getElem?_eq_getElem (by omega)]; rfl
          have hnonempty : Region.ready .any ops' listed ≠ [] := by
            -- the least one that is not listed
            have hex : ∃ i, i < ops'.size ∧ listed.getD i false = false ∧ ∀ j, j < i → listed.getD j false = true := by
              obtain ⟨k, ⟨hk1, hk2⟩, hk3⟩ := least_of (p := fun i => i < ops'.size ∧ listed.getD i false = false) i0 ⟨by omega, hi0l⟩
              refine ⟨k, hk1, hk2, fun j hj => ?_⟩
              have := hk3 j hj
              cases hq : listed.getD j false with
              | true => rfl
              | false => exact (this ⟨by omega, hq⟩).elim
            obtain ⟨k, hk1, hk2, hk3⟩ := hex
            intro hempty
            have : k ∈ Region.ready .any ops' listed := mem_ready'.2 ⟨hk1, by rw [gd k _ hk1]; exact hk2, ops'[k], Array.getElem?_eq_getElem hk1, fun j hj => hk3 j ((edges_lt hok (Array.getElem?_eq_getElem hk1)).1 j hj)⟩
            rw [hempty] at this; cases this
          refine ⟨fun e => (hnonempty e).elim, fun i hi => ?_⟩
          obtain ⟨h1, h2, o, ho1, ho2'⟩ := mem_ready'.1 hi
          rw [gd i _ h1] at h2
          have him : i < m := by
            rcases Nat.lt_or_ge i m with h3 | h3
            · exact h3
            · have := ho2' i0 ((edges_lt hok ho1).2.2.2 h3 i0 (by omega))
              rw [hi0l] at this; cases this
          obtain ⟨d, av, hd1, hout, hdrawn, _⟩ := hent i o him ho1
          have hdn : d < C.n := by
            have := List.all_eq_true.1 hdok o (by simpa using Array.mem_of_getElem? ho1)
            rw [hd1] at this; simpa using this
          -- the frame of those that it waits for
          have hrelI := hhalf.frame (pick (out.take i) (edgesOf o)) (fun x hx => by
            obtain ⟨j, hj, hxj⟩ := mem_pick _ _ _ hx
            have hjlt := (edges_lt hok ho1).1 j hj
            rw [List.getElem?_take_of_lt hjlt] at hxj
            exact ⟨j, by omega, ho2' j hj, hxj⟩)
          -- what becomes of it
          have next : ∀ (h' : Heap) (v : Value) (w' : World), Ext h h' → (∀ frx, RelH C h ρ frx L a w → RelH C h' ρ frx L a w') → VRel h' ρ (a.tmps.setIfInBounds d v) av v → wpAny C.P .any ops' (lift C (normQ Q)) fuel (listed.setIfInBounds i true) (a.put (some d) v) w' := by
            intro h' v w' hext hlift hv
            refine ih (listed.setIfInBounds i true) _ w' (by simp [hls]) ?_ ?_ ?_ ?_
            · intro k hk hk2
              rw [Array.getD_eq_getD_getElem?, Array.getElem?_setIfInBounds, if_neg (by omega), ← Array.getD_eq_getD_getElem?]
              exact htl k hk hk2
            · intro k ok hk hok' hkl j hj
              have old : listed.getD j false = true → (listed.setIfInBounds i true).getD j false = true := by
                intro hjl
                rw [Array.getD_eq_getD_getElem?, Array.getElem?_setIfInBounds]
                split
                · rename_i hij; subst hij; simp [hls, h1]
                · rw [← Array.getD_eq_getD_getElem?]; exact hjl
              by_cases hik : i = k
              · subst hik
                rw [ho1] at hok'
                obtain rfl := Option.some.inj hok'
                exact old (ho2' j hj)
              · rw [Array.getD_eq_getD_getElem?, Array.getElem?_setIfInBounds, if_neg hik, ← Array.getD_eq_getD_getElem?] at hkl
                exact old (hdc k ok hk hok' hkl j hj)
            · refine ⟨h', ρ, ?_, ?_⟩
              · refine { (hlift _ hhalf.rel) with size := by simp [Act.put, hhalf.rel.size], defers := (hlift _ hhalf.rel).defers, fr := fun t x hx => ?_ }
                obtain ⟨hb1, hb2⟩ := base_spec hx
                obtain ⟨h3, h4⟩ := (hlift _ hhalf.rel).fr t x hx
                have hne : d ≠ t := by
                  rintro rfl
                  exact hb1 (hdstin i d av him hout)
                refine ⟨h3, ?_⟩
                have : (a.put (some d) v).tmps.getD t undef = a.tmps.getD t undef := by
                  simp [Act.put, Array.getD_eq_getD_getElem?, Array.getElem?_setIfInBounds, hne]
                rw [this]
                exact h4.anyTm hb2
              · intro k dk avk hk hkl hko
                by_cases hik : i = k
                · subst hik
                  rw [hout] at hko
                  simp only [Option.some.injEq, Prod.mk.injEq] at hko
                  obtain ⟨rfl, rfl⟩ := hko
                  refine ⟨hdn, ?_⟩
                  have : (a.put (some d) v).tmps.getD d undef = v := by simp [Act.put, hhalf.rel.size, hdn]
                  rw [this]; exact hv
                · rw [Array.getD_eq_getD_getElem?, Array.getElem?_setIfInBounds, if_neg hik, ← Array.getD_eq_getD_getElem?] at hkl
                  obtain ⟨h3, h40⟩ := hhalf.done k dk avk hk hkl hko
                  have h4 := h40.mono hext
                  have hne : d ≠ dk := by
                    rintro rfl
                    exact hik (hdist i k d av avk him hk hout hko)
                  refine ⟨h3, ?_⟩
                  have : (a.put (some d) v).tmps.getD dk undef = a.tmps.getD dk undef := by
                    simp [Act.put, Array.getD_eq_getD_getElem?, Array.getElem?_setIfInBounds, hne]
                  rw [this]
                  cases avk with
                  | mb g b x =>
                    intro ht
                    refine h4 ?_
                    -- the slot that it looks at was written before
                    obtain ⟨dk', avk', e1, e2, _, e4⟩ := hent k ops'[k] hk (Array.getElem?_eq_getElem (by omega))
                    rw [hko] at e2
                    simp only [Option.some.injEq, Prod.mk.injEq] at e2
                    obtain ⟨rfl, rfl⟩ := e2
                    obtain ⟨j, hgd, hgs⟩ := e4 g b x rfl
                    have hjE := (edges_lt hok (Array.getElem?_eq_getElem (show k < ops'.size by omega))).2.1 j b hgd
                    have hjl := hdc k ops'[k] hk (Array.getElem?_eq_getElem (by omega)) hkl j hjE
                    have hjlt := (edges_lt hok (Array.getElem?_eq_getElem (show k < ops'.size by omega))).1 j hjE
                    have hgd' : d ≠ g := by
                      intro hdg0
                      unfold guardSlot at hgs
                      obtain ⟨oj, hoj, hdj⟩ := Option.bind_eq_some_iff.1 hgs
                      obtain ⟨dj, avj, f1, f2, _⟩ := hent j oj (by omega) hoj
                      rw [hdj, ← hdg0] at f1
                      rw [← Option.some.inj f1] at f2
                      have := hdist i j d av avj him (by omega) hout f2
                      subst this
                      rw [h2] at hjl; cases hjl
                    have : (a.put (some d) v).tmps[g]? = a.tmps[g]? := by
                      simp [Act.put, Array.getElem?_setIfInBounds, hgd']
                    rw [this] at ht; exact ht
                  | _ => exact h4
            · have : ((List.range ops'.size).filter fun k => (listed.setIfInBounds i true).getD k false).length = ((List.range ops'.size).filter fun k => listed.getD k false).length + 1 := by
                have hset : ∀ k, k < ops'.size → (listed.setIfInBounds i true).getD k false = (decide (k = i) || listed.getD k false) := by
                  intro k hk
                  rw [Array.getD_eq_getD_getElem?, Array.getElem?_setIfInBounds]
                  by_cases hik : i = k
                  · subst hik; simp [hls, h1]
                  · rw [if_neg hik, ← Array.getD_eq_getD_getElem?]; simp [Ne.symm hik]
                rw [List.filter_congr (q := fun k => decide (k = i) || listed.getD k false) (fun k hk => hset k (by simpa using hk))]
                exact count_one ops'.size i (fun k => listed.getD k false) h1 h2
              rw [this]; omega
          exact hdrawn h ρ a w hrelI _ _ (fun h' v w' e1 e2 e3 => next h' v w' e1 (fun frx => e2 frx L (fun _ _ e => e)) e3)
    refine region_any hpl hm (quiet ops'.size _ a _ (by simp) (fun i _ hi => by simp [Array.getD_eq_getD_getElem?, hi]) (fun i o hi ho hl => ?_) ?_ (by omega))
    · rw [Array.getD_eq_getD_getElem?] at hl
      simp [show i < ops'.size by omega] at hl
    · obtain ⟨h, ρ, hr'⟩ := hr.drawn
      refine ⟨h, ρ, { hr' with fr := base_get (fun p hp => hr'.fr p.1 p.2 (once_get honce hp)) }, fun i d av hi hl => ?_⟩
      rw [Array.getD_eq_getD_getElem?] at hl
      simp [show i < ops'.size by omega] at hl
  · simp at htail

/-- a quiet operation, its guard known or not -/
def kDraw (P : Program) (ops : Array Oper) (fr : Fr) (L : LL) (og ov : Option Orc) (o : Oper) : Option (AV × List Prop) :=
  match o.guard, og with
  | some (j, b), some (.known c) =>
    match guardSlot ops j with
    | some g =>
      match get fr g with
      | some (.one (.dat .bool v)) =>
        if c = b then
          match qstep P fr L (some (g, b)) (Orc.sv ov) o.op with
          | some (av, p) => if av.sure then some (av, (v = c) :: owed (owes o.op (Orc.sv ov)) p) else none
          | none => none
        else some (.tup [], [v = c])
      | some (.tup []) => some (.tup [], [])
      | _ => none
    | none => none
  | _, _ => qDraw P ops fr L ov o

/-- a call that is handed no object: the function and its arguments -/
def cDraw (ops : Array Oper) (fr : Fr) (us : List (Option Ty)) (o : Oper) : Option (Nat × List AV × Prop) :=
  match guardIs ops fr o with
  | some (gd, q) => (callOf fr gd o.op).bind fun r => (coer us r.2).map fun as => (r.1, as, q)
  | none => none

def AllC (P : Program) : List (Nat × List AV × AV) → Prop
  | [] => True
  | (f, as, R) :: r => (isFn P f = true ∧ FnC P f as [] R [] ∧ R.data = true) ∧ AllC P r

theorem AllC.append {P : Program} : ∀ {l m : List (Nat × List AV × AV)}, AllC P (l ++ m) → AllC P l ∧ AllC P m
  | [], m, h => ⟨trivial, h⟩
  | (f, as, R) :: l, m, h => ⟨⟨h.1, (AllC.append h.2).1⟩, (AllC.append h.2).2⟩
theorem allC0 {P : Program} : AllC P [] := trivial
theorem allC1 {P : Program} {f : Nat} {as : List AV} {R : AV} {r : List (Nat × List AV × AV)} (h1 : isFn P f = true) (h2 : FnC P f as [] R []) (h3 : R.data = true) (t : AllC P r) : AllC P ((f, as, R) :: r) := ⟨⟨h1, h2, h3⟩, t⟩

def ents2 (P : Program) (ops : Array Oper) (fr0 : Fr) (L : LL) (orcs : List (Nat × Orc)) (cs : List (Nat × List (Option Ty) × AV)) : Nat → List Oper → List (Nat × AV) → Option (List (Nat × AV) × List Prop × List (Nat × List AV × AV))
  | _, [], acc => some (acc, [], [])
  | i, o :: r, acc =>
    match o.dst with
    | some d =>
      match get cs i with
      | some (us, R) =>
        match cDraw ops (pick acc (edgesOf o) ++ fr0) us o with
        | some (f, as, q) =>
          match ents2 P ops fr0 L orcs cs (i + 1) r (acc ++ [(d, R)]) with
          | some (l, obs, calls) => some (l, q :: obs, (f, as, R) :: calls)
          | none => none
        | none => none
      | none =>
        match kDraw P ops (pick acc (edgesOf o) ++ fr0) L (get orcs (2 * i)) (get orcs (2 * i + 1)) o with
        | some (av, p) =>
          match ents2 P ops fr0 L orcs cs (i + 1) r (acc ++ [(d, av)]) with
          | some (l, obs, calls) => some (l, p ++ obs, calls)
          | none => none
        | none => none
    | none => none

theorem AllP.cons' {p : Prop} {l : List Prop} (h : AllP (p :: l)) : p ∧ AllP l := by
  have := AllP.append (p := [p]) (q := l) h
  exact ⟨this.1, this.2⟩

theorem qDraw_drawn {ops : Array Oper} {i : Nat} {o : Oper} {d : Nat} {frI : Fr} {ov : Option Orc} {av : AV} {q : List Prop} (ho1 : ops[i]? = some o) (hd1 : o.dst = some d) (hqd : qDraw C.P ops frI L ov o = some (av, q)) (hq : AllP q) :
    Drawn C ops i d av frI L := by
  intro h ρ a w hrelI Q K next0
  have next : ∀ v : Value, VRel h ρ (a.tmps.setIfInBounds d v) av v → K (a.put (some d) v) w := fun v hv => next0 h v w (Ext.refl h) (fun _ _ _ hr => hr) hv
  unfold wpOp
  rw [ho1]
  simp only
  unfold qDraw at hqd
  split at hqd
  · rename_i hgd
    split at hqd
    · rename_i av1 p1 hr1
      split at hqd
      · simp only [Option.some.injEq, Prod.mk.injEq] at hqd
        obtain ⟨rfl, rfl⟩ := hqd
        have hp : p1 := by
          cases hb : owes o.op (Orc.sv ov) with
          | true => rw [hb] at hq; exact hq
          | false => exact owes_spec hr1 hb
        obtain ⟨v, hv, hrel, hsu⟩ := qstep_sound hrelI (gd := none) (fun _ _ e => by cases e) hr1 hp
        rw [if_pos (by simp [Region.wanted, hgd])]
        left
        unfold Oper.wp
        rw [hv, Oper.upon_value, hd1]
        exact next v (hrel.anyTm hsu)
      · simp at hqd
    · simp at hqd
  · rename_i j b hgd
    split at hqd
    · rename_i g hgs
      split at hqd
      · simp at hqd
      · rename_i hdg
        split at hqd
        · rename_i x pp hq1
          simp only [Option.some.injEq, Prod.mk.injEq] at hqd
          obtain ⟨rfl, rfl⟩ := hqd
          have hp : pp := by
            cases hb : owes o.op (Orc.sv ov) with
            | true => rw [hb] at hq; exact hq
            | false => exact owes_spec hq1 hb
          have hdg' : d ≠ g := by
            rintro rfl; exact hdg hd1
          have hy : yielded ops a.tmps j = match a.tmps[g]? with | some (.bool b) => some b | _ => none := by
            unfold guardSlot at hgs
            unfold yielded
            rw [hgs]; rfl
          by_cases hw : a.tmps[g]? = some (.bool b)
          · have hwant : Region.wanted o (yielded ops a.tmps) = true := by
              rw [hw] at hy
              simp [Region.wanted, hgd, hy]
            obtain ⟨v, hv, hrel, _⟩ := qstep_sound hrelI (gd := some (g, b)) (fun g' b' e => by simp only [Option.some.injEq, Prod.mk.injEq] at e; obtain ⟨rfl, rfl⟩ := e; exact hw) hq1 hp
            rw [if_pos hwant]
            left
            unfold Oper.wp
            rw [hv, Oper.upon_value, hd1]
            exact next v (fun _ => hrel)
          · have hwant : Region.wanted o (yielded ops a.tmps) = false := by
              simp only [Region.wanted, hgd, hy]
              split
              · rename_i b' hb'
                simp only [hb', Option.some.injEq, Value.bool.injEq] at hw
                simp [hw]
              · simp
            rw [if_neg (by simp [hwant]), hd1]
            refine next undef (fun ht => ?_)
            rw [Array.getElem?_setIfInBounds, if_neg hdg'] at ht
            exact (hw ht).elim
        · simp at hqd
    · simp at hqd

theorem qDraw_mb {P : Program} {ops : Array Oper} {o : Oper} {frI : Fr} {ov : Option Orc} {q : List Prop} {g : Nat} {b : Bool} {x : SV} (e4 : qDraw P ops frI L ov o = some (.mb g b x, q)) : ∃ j, o.guard = some (j, b) ∧ guardSlot ops j = some g := by
  unfold qDraw at e4
  split at e4
  · split at e4
    · split at e4
      · rename_i hsu
        simp only [Option.some.injEq, Prod.mk.injEq] at e4
        rw [e4.1] at hsu
        simp [AV.sure] at hsu
      · simp at e4
    · simp at e4
  · rename_i j b' hgd
    split at e4
    · rename_i g' hgs
      split at e4
      · simp at e4
      · split at e4
        · simp only [Option.some.injEq, Prod.mk.injEq, AV.mb.injEq] at e4
          obtain ⟨⟨rfl, rfl, _⟩, _⟩ := e4
          exact ⟨j, hgd, hgs⟩
        · simp at e4
    · simp at e4

theorem kDraw_drawn {ops : Array Oper} {i : Nat} {o : Oper} {d : Nat} {frI : Fr} {og ov : Option Orc} {av : AV} {q : List Prop} (ho1 : ops[i]? = some o) (hd1 : o.dst = some d) (hqd : kDraw C.P ops frI L og ov o = some (av, q)) (hq : AllP q) :
    Drawn C ops i d av frI L ∧ (∀ g b x, av = .mb g b x → ∃ j, o.guard = some (j, b) ∧ guardSlot ops j = some g) := by
  unfold kDraw at hqd
  split at hqd
  · rename_i j b c hgd
    split at hqd
    · rename_i g hgs
      have hy : ∀ tm : Array Value, yielded ops tm j = match tm[g]? with | some (.bool b) => some b | _ => none := by
        intro tm
        unfold guardSlot at hgs
        unfold yielded
        rw [hgs]; rfl
      split at hqd
      · rename_i v hv
        split at hqd
        · rename_i hcb
          subst hcb
          split at hqd
          · rename_i av1 p1 hr1
            split at hqd
            · rename_i hsu1
              simp only [Option.some.injEq, Prod.mk.injEq] at hqd
              obtain ⟨rfl, rfl⟩ := hqd
              obtain ⟨hvc, hq2⟩ := AllP.cons' hq
              subst hvc
              refine ⟨?_, fun g b x e => by subst e; simp [AV.sure] at hsu1⟩
              intro h ρ a w hrelI Q K next0
              have htm := slot_bool hrelI hv
              have hp : p1 := by
                cases hb : owes o.op (Orc.sv ov) with
                | true => rw [hb] at hq2; exact hq2
                | false => exact owes_spec hr1 hb
              obtain ⟨u, hu, hrel, hsu⟩ := qstep_sound hrelI (gd := some (g, v)) (fun g' b' e => by simp only [Option.some.injEq, Prod.mk.injEq] at e; obtain ⟨rfl, rfl⟩ := e; exact htm) hr1 hp
              unfold wpOp
              rw [ho1]
              simp only
              rw [if_pos (by simp [Region.wanted, hgd, hy, htm])]
              left
              unfold Oper.wp
              rw [hu, Oper.upon_value, hd1]
              exact next0 h u w (Ext.refl h) (fun _ _ _ hr => hr) (hrel.anyTm hsu)
            · simp at hqd
          · simp at hqd
        · rename_i hcb
          simp only [Option.some.injEq, Prod.mk.injEq] at hqd
          obtain ⟨rfl, rfl⟩ := hqd
          refine ⟨?_, fun g b x e => by cases e⟩
          have hvc : v = c := hq
          subst hvc
          intro h ρ a w hrelI Q K next0
          have htm := slot_bool hrelI hv
          unfold wpOp
          rw [ho1]
          simp only
          rw [if_neg (by simp [Region.wanted, hgd, hy, htm, hcb]), hd1]
          exact next0 h undef w (Ext.refl h) (fun _ _ _ hr => hr) ⟨[], rfl, .nil⟩
      · rename_i hv
        simp only [Option.some.injEq, Prod.mk.injEq] at hqd
        obtain ⟨rfl, rfl⟩ := hqd
        refine ⟨?_, fun g b x e => by cases e⟩
        intro h ρ a w hrelI Q K next0
        have hy2 : yielded ops a.tmps j = none := by
          rw [hy]
          obtain ⟨hlt, vs, hvs, hall⟩ := hrelI.fr g _ hv
          cases hall
          have hsz : g < a.tmps.size := by rw [hrelI.size]; exact hlt
          rw [Array.getD_eq_getD_getElem?, Array.getElem?_eq_getElem hsz] at hvs
          simp only [Option.getD_some] at hvs
          rw [Array.getElem?_eq_getElem hsz, hvs]
        unfold wpOp
        rw [ho1]
        simp only
        rw [if_neg (by simp [Region.wanted, hgd, hy2]), hd1]
        exact next0 h undef w (Ext.refl h) (fun _ _ _ hr => hr) ⟨[], rfl, .nil⟩
      · simp at hqd
    · simp at hqd
  · exact ⟨qDraw_drawn ho1 hd1 hqd hq, fun g b x e => by subst e; exact qDraw_mb hqd⟩

theorem cDraw_drawn {ops : Array Oper} {i : Nat} {o : Oper} {d : Nat} {frI : Fr} {us : List (Option Ty)} {f : Nat} {as : List AV} {q : Prop} {R : AV} (ho1 : ops[i]? = some o) (hd1 : o.dst = some d) (hc : cDraw ops frI us o = some (f, as, q)) (hq : q)
    (hfn : isFn C.P f = true) (hF : FnC C.P f as [] R []) (hR : R.data = true) : Drawn C ops i d R frI L := by
  intro h ρ a w hr Q K next0
  unfold cDraw at hc
  split at hc
  · rename_i gd q' hg
    obtain ⟨⟨f', as0⟩, hcall, hd⟩ := Option.bind_eq_some_iff.1 hc
    obtain ⟨as', hco, he⟩ := Option.map_eq_some_iff.1 hd
    simp only [Prod.mk.injEq] at he
    obtain ⟨rfl, rfl, rfl⟩ := he
    obtain ⟨hw, hgd⟩ := guardIs_spec hr hg hq
    obtain ⟨vs, hrun, hall0⟩ := callOf_spec hr hgd hcall hfn
    have hall := coer_spec _ _ _ _ hco hall0
    unfold wpOp
    rw [ho1]
    simp only
    rw [if_pos hw]
    left
    unfold Oper.wp
    rw [hrun, Oper.upon_enter]
    refine (hF h ρ w vs hr.heap (fun s o hs => by simp [get] at hs) (fun s s' o o' b _ hs => by simp [get] at hs) hall).mono ?_
    rintro e w' ⟨v, h', ρ', rfl, hrel, hout⟩
    show K (a.put o.dst v) w'
    rw [hd1]
    refine next0 h' v w' hout.ext (fun _ _ _ hx => hx.extend hout) ?_
    cases R with
    | one x => exact SRel.ofData hR hrel
    | tup xs =>
      obtain ⟨us, rfl, hall2⟩ := hrel
      exact ⟨us, rfl, all2_ofData hR hall2⟩
    | agg _ => simp [AV.data] at hR
    | mb _ _ _ => simp [AV.data] at hR
  · simp at hc

theorem ents2_spec {ops : Array Oper} {fr0 : Fr} {orcs : List (Nat × Orc)} {cs : List (Nat × List (Option Ty) × AV)} : ∀ (l : List Oper) (i : Nat) (acc out : List (Nat × AV)) (obs : List Prop) (calls : List (Nat × List AV × AV)), acc.length = i →
    ents2 C.P ops fr0 L orcs cs i l acc = some (out, obs, calls) → AllP obs → AllC C.P calls → (∀ k o, l[k]? = some o → ops[i + k]? = some o) →
    out.length = i + l.length ∧ (∀ k, k < i → out[k]? = acc[k]?) ∧ ∀ k o, l[k]? = some o → ∃ d av, o.dst = some d ∧ out[i + k]? = some (d, av) ∧ Drawn C ops (i + k) d av (pick (out.take (i + k)) (edgesOf o) ++ fr0) L ∧
      (∀ g b x, av = .mb g b x → ∃ j, o.guard = some (j, b) ∧ guardSlot ops j = some g)
  | [], i, acc, out, obs, calls, hl, h, _, _, _ => by
    simp only [ents2, Option.some.injEq, Prod.mk.injEq] at h
    obtain ⟨rfl, _⟩ := h
    exact ⟨by simp [hl], fun _ _ => rfl, fun k o hk => by simp at hk⟩
  | o :: l, i, acc, out, obs, calls, hl, h, ho, hcl, hops => by
    have fin : ∀ (d : Nat) (av : AV) (l' : List (Nat × AV)) (q : List Prop) (cl : List (Nat × List AV × AV)), o.dst = some d → ents2 C.P ops fr0 L orcs cs (i + 1) l (acc ++ [(d, av)]) = some (l', q, cl) → AllP q → AllC C.P cl →
        (Drawn C ops i d av (pick acc (edgesOf o) ++ fr0) L ∧ (∀ g b x, av = .mb g b x → ∃ j, o.guard = some (j, b) ∧ guardSlot ops j = some g)) → 
        l'.length = i + (o :: l).length ∧ (∀ k, k < i → l'[k]? = acc[k]?) ∧ ∀ k o', (o :: l)[k]? = some o' → ∃ d av, o'.dst = some d ∧ l'[i + k]? = some (d, av) ∧ Drawn C ops (i + k) d av (pick (l'.take (i + k)) (edgesOf o') ++ fr0) L ∧
          (∀ g b x, av = .mb g b x → ∃ j, o'.guard = some (j, b) ∧ guardSlot ops j = some g) := by
      intro d av l' q cl hd he hq hcl' hdr
      obtain ⟨h1, h2, h3⟩ := ents2_spec l (i + 1) (acc ++ [(d, av)]) l' q cl (by simp [hl]) he hq hcl' (fun k o' hk => by
        have := hops (k + 1) o' (by simpa using hk)
        rwa [show i + (k + 1) = i + 1 + k by omega] at this)
      have hacc : l'.take i = acc := by
        apply List.ext_getElem?
        intro k
        rw [List.getElem?_take]
        split
        · rename_i hk
          rw [h2 k (by omega), List.getElem?_append_left (by omega)]
        · rw [List.getElem?_eq_none (by omega)]
      refine ⟨by rw [h1]; simp; omega, fun k hk => ?_, fun k o' hk => ?_⟩
      · rw [h2 k (by omega), List.getElem?_append_left (by omega)]
      · cases k with
        | zero =>
          simp only [List.getElem?_cons_zero, Option.some.injEq] at hk
          subst hk
          refine ⟨d, av, hd, ?_, ?_, hdr.2⟩
          · rw [Nat.add_zero, h2 i (by omega), List.getElem?_append_right (by omega)]; simp [hl]
          · rw [Nat.add_zero, hacc]; exact hdr.1
        | succ k =>
          obtain ⟨d', av', a1, a2, a3, a4⟩ := h3 k o' (by simpa using hk)
          have e : i + 1 + k = i + (k + 1) := by omega
          rw [e] at a2 a3
          exact ⟨d', av', a1, a2, a3, a4⟩
    have hoi : ops[i]? = some o := by simpa using hops 0 o rfl
    simp only [ents2] at h
    split at h
    · rename_i d hd
      split at h
      · rename_i us R hcs
        split at h
        · rename_i f as q hcd
          split at h
          · rename_i l' obs' calls' he
            simp only [Option.some.injEq, Prod.mk.injEq] at h
            obtain ⟨rfl, rfl, rfl⟩ := h
            obtain ⟨hq1, hq2⟩ := AllP.cons' ho
            obtain ⟨⟨hfn, hF, hR⟩, hcl2⟩ := hcl
            exact fin d R _ _ _ hd he hq2 hcl2 ⟨cDraw_drawn hoi hd hcd hq1 hfn hF hR, fun g b x e => by subst e; simp [AV.data] at hR⟩
          · simp at h
        · simp at h
      · split at h
        · rename_i av p hk
          split at h
          · rename_i l' obs' calls' he
            simp only [Option.some.injEq, Prod.mk.injEq] at h
            obtain ⟨rfl, rfl, rfl⟩ := h
            obtain ⟨hq1, hq2⟩ := ho.append
            exact fin d av _ _ _ hd he hq2 hcl (kDraw_drawn hoi hd hk hq1)
          · simp at h
        · simp at h
    · simp at h

theorem W_draw2 {B : Code} {p : List Nat} {Q : Post} {fr' : Fr} {L' : LL} (m : Nat) (orcs : List (Nat × Orc)) (cs : List (Nat × List (Option Ty) × AV)) (kF kL : List Nat) {out : List (Nat × AV)} {obs obs2 : List Prop} {calls : List (Nat × List AV × AV)} (hdr : isDraw (nav B p) = true)
    (hm : C.P.follows .mixedOrders = true) (hok : (drawOk (opsOf (nav B p)) m && dstOk C.n (opsOf (nav B p)) && once fr) = true)
    (he : ents2 C.P (opsOf (nav B p)) (baseFr (opsOf (nav B p)) m fr) L orcs cs 0 ((opsOf (nav B p)).toList.take m) [] = some (out, obs, calls)) (ho : AllP obs) (hc : AllC C.P calls)
    (htail : (match run C.P (opsOf (nav B p)) orcs m ((opsOf (nav B p)).toList.drop m) (out ++ baseFr (opsOf (nav B p)) m fr) L with | some (f, l, ob) => (restr kF kL f l).map fun r => (r.1, r.2, ob) | none => none) = some (fr', L', obs2)) (ho2 : AllP obs2)
    (hn : Q .normal fr' L') : W C (nav B p) Q fr L := by
  obtain ⟨h1, _, h3⟩ := ents2_spec _ 0 [] out obs calls rfl he ho hc (fun k o hk => by
    rw [Nat.zero_add]
    have : k < m := by
      have := (List.getElem?_eq_some_iff.1 hk).1
      simp at this; omega
    rw [List.getElem?_take_of_lt this] at hk
    simpa using hk)
  have hmle : m ≤ (opsOf (nav B p)).size := by
    simp only [Bool.and_eq_true] at hok
    have := hok.1.1
    unfold drawOk at this
    simp only [Bool.and_eq_true, decide_eq_true_eq] at this
    exact this.1.1
  refine W_drawG m orcs kF kL hdr hm hok (by rw [h1]; simp; omega) (fun i o hi hoi => ?_) htail ho2 hn
  have := h3 i o (by rw [List.getElem?_take_of_lt hi]; simpa using hoi)
  simpa using this
end
end Go.Sl
