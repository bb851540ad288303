/- Chains in such regions, and ranges over functions, of the certifying translation. -/
import Derived.Test.YtnblafiefaalgaaSl4
import Derived.RangeFuncSeq
import Derived.RangeFuncIn
set_option linter.all false
/- Calls in general: handed objects, some of which may be laid anew, and new objects that come back; results of any shape. -/
namespace Go.Sl
open Go

def AV.inM (ns : List Nat) : AV → Bool
  | .one x => x.inN ns
  | .tup xs => xs.all (SV.inN ns)
  | .agg xs => xs.all (SV.inN ns)
  | _ => false

/-- the names that are given anew behind a call, as the caller calls them -/
def anew (σ : List (Nat × Nat)) (Lin : LL) (nn : List Nat) : List Nat := movedOf σ Lin ++ nn.map (sig σ)
def lendOk3 (σ : List (Nat × Nat)) (Lin Lout : LL) (nn : List Nat) : Bool :=
  decide ((Lin.map (·.1) ++ nn).Nodup) && decide (((Lin.map (·.1) ++ nn).map (sig σ)).Nodup) && decide (Lout.map (·.1) = Lin.map (·.1) ++ nn) && Lout.all (fun p => p.2.inN (Lin.map (·.1) ++ nn)) &&
  ((movedOf σ Lin).all (fun s => decide (s < 1000)) || (movedOf σ Lin).all (fun s => decide (2000 ≤ s))) && nn.all (fun c => decide (c < 1000)) && nn.all (fun c => decide (sig σ c < 1000))

section
variable {C : Ctx} {h : Heap} {ρ : Nat → Value} {fr : Fr} {L : LL} {a : Act} {w : World}

theorem RelH.lend3 (hr : RelH C h ρ fr L a w) {σ : List (Nat × Nat)} {Lin Lout : LL} {nn : List Nat} {h' : Heap} {ρ' : Nat → Value} {w' : World} (hk : lendOk3 σ Lin Lout nn = true)
    (hL : keep (Lin.map fun p => sig σ p.1) L = some (Lin.map fun p => (sig σ p.1, p.2.ren (sig σ))))
    (ho : Out h (fun c => ρ (sig σ c)) w Lin h' ρ' w' Lout) :
    ∃ ρ2 : Nat → Value, (∀ c, c ∈ Lin.map (·.1) ++ nn → ρ2 (sig σ c) = ρ' c) ∧ RelH C h' ρ2 (killFs (anew σ Lin nn) fr) (putAll σ Lout (killLs (anew σ Lin nn) L)) a w' := by
  unfold lendOk3 at hk
  simp only [Bool.and_eq_true, decide_eq_true_eq] at hk
  obtain ⟨⟨⟨⟨⟨⟨hnd, hsnd⟩, hnames⟩, hin⟩, hmv⟩, hnlo⟩, hnlo'⟩ := hk
  have hndL : (Lin.map (·.1)).Nodup := (List.nodup_append.1 hnd).1
  have inL : ∀ {c o}, get Lin c = some o → get L (sig σ c) = some (o.ren (sig σ)) := fun hg => keep_map hL (get_mem _ _ _ hg)
  have hndo : (Lout.map (·.1)).Nodup := by rw [hnames]; exact hnd
  have nmOut : ∀ {c o}, (c, o) ∈ Lout → c ∈ Lin.map (·.1) ++ nn := fun hm => by rw [← hnames]; exact List.mem_map.2 ⟨_, hm, rfl⟩
  have memIn : ∀ {c o}, (c, o) ∈ Lout → (∃ p, get Lin c = some p) ∨ c ∈ nn := by
    intro c o hm
    rcases List.mem_append.1 (nmOut hm) with h1 | h1
    · obtain ⟨⟨c', p⟩, hp, rfl⟩ := List.mem_map.1 h1
      exact .inl ⟨p, get_of_mem hndL hp⟩
    · exact .inr h1
  have inOut : ∀ {c}, c ∈ Lin.map (·.1) ++ nn → ∃ o, (c, o) ∈ Lout := by
    intro c hg
    rw [← hnames] at hg
    obtain ⟨⟨c', o⟩, hp, rfl⟩ := List.mem_map.1 hg
    exact ⟨o, hp⟩
  have nmIn : ∀ {c p}, get Lin c = some p → c ∈ Lin.map (·.1) ++ nn := fun hg => List.mem_append_left _ (List.mem_map.2 ⟨_, get_mem _ _ _ hg, rfl⟩)
  have inj : ∀ {c c'}, c ∈ Lin.map (·.1) ++ nn → c' ∈ Lin.map (·.1) ++ nn → sig σ c = sig σ c' → c = c' := fun hc hc' e => nodup_map_inj hsnd hc hc' e
  let ρ2 : Nat → Value := fun t => match (Lin.map (·.1) ++ nn).find? (fun c => sig σ c == t) with
    | some c => ρ' c
    | none => ρ t
  have r1 : ∀ c, c ∈ Lin.map (·.1) ++ nn → ρ2 (sig σ c) = ρ' c := by
    intro c hc
    show (match (Lin.map (·.1) ++ nn).find? (fun c' => sig σ c' == sig σ c) with | some c => ρ' c | none => ρ (sig σ c)) = _
    cases hf : (Lin.map (·.1) ++ nn).find? (fun c' => sig σ c' == sig σ c) with
    | none =>
      have := List.find?_eq_none.1 hf c hc
      simp at this
    | some c' =>
      have h1 := List.find?_some hf
      have h2 := List.mem_of_find?_eq_some hf
      have : c' = c := inj h2 hc (by simpa using h1)
      rw [this]
  have r0 : ∀ t, (∀ c, c ∈ Lin.map (·.1) ++ nn → sig σ c ≠ t) → ρ2 t = ρ t := by
    intro t ht
    show (match (Lin.map (·.1) ++ nn).find? (fun c' => sig σ c' == t) with | some c => ρ' c | none => ρ t) = _
    cases hf : (Lin.map (·.1) ++ nn).find? (fun c' => sig σ c' == t) with
    | none => rfl
    | some c' =>
      have h1 := List.find?_some hf
      exact (ht c' (List.mem_of_find?_eq_some hf) (by simpa using h1)).elim
  have pinned : ∀ {c p}, get Lin c = some p → nameOk c = false → ρ' c = ρ (sig σ c) := fun hg hc => ho.pins _ hc ⟨_, hg⟩
  have moved : ∀ {c p}, get Lin c = some p → nameOk c = true → sig σ c ∈ movedOf σ Lin := by
    intro c p hg hc
    unfold movedOf
    exact List.mem_map.2 ⟨(c, p), List.mem_filter.2 ⟨get_mem _ _ _ hg, hc⟩, rfl⟩
  have off : ∀ t, t ∉ anew σ Lin nn → ρ2 t = ρ t := by
    intro t ht
    have ht1 : t ∉ movedOf σ Lin := fun hm => ht (List.mem_append_left _ hm)
    have ht2 : ∀ c, c ∈ nn → sig σ c ≠ t := fun c hc e => ht (List.mem_append_right _ (List.mem_map.2 ⟨c, hc, e⟩))
    by_cases hc : ∃ c, c ∈ Lin.map (·.1) ++ nn ∧ sig σ c = t
    · obtain ⟨c, hc, rfl⟩ := hc
      rw [r1 c hc]
      rcases List.mem_append.1 hc with hc1 | hc1
      · obtain ⟨⟨c', p⟩, hp, rfl⟩ := List.mem_map.1 hc1
        have hg := get_of_mem hndL hp
        refine pinned hg ?_
        cases hn : nameOk c' with
        | false => rfl
        | true => exact (ht1 (moved hg hn)).elim
      · exact (ht2 c hc1 rfl).elim
    · exact r0 t fun c hc' e => hc ⟨c, hc', e⟩
  have other : ∀ {t x}, (∀ c o, (c, o) ∈ Lout → sig σ c ≠ t) → get L t = some x → ∀ b, Blk (ρ t) b → w'.heap[b]? = w.heap[b]? := by
    intro t x hno hx b hb
    refine ho.frame b ((hr.objs t x hx).block hb).2.2 fun s o hs hb' => ?_
    obtain ⟨o', hm⟩ := inOut (nmIn hs)
    exact hr.apart t (sig σ s) x _ b (fun e => hno _ _ hm e.symm) hx (inL hs) hb hb'
  have offL : ∀ {t}, (∀ c o, (c, o) ∈ Lout → sig σ c ≠ t) → ρ2 t = ρ t := by
    intro t hno
    refine r0 t fun c hc => ?_
    obtain ⟨o, hm⟩ := inOut hc
    exact hno _ _ hm
  have ownOk : ∀ b, (w.heap.size ≤ b ∨ ∃ t p, get Lin t = some p ∧ Blk (ρ (sig σ t)) b) → C.own b := by
    rintro b (hb | ⟨t, p, ht, hb⟩)
    · exact .inl (Nat.le_trans hr.grow hb)
    · exact ((hr.objs _ _ (inL ht)).block hb).1
  refine ⟨ρ2, r1, hr.size, (hr.defers.keep fun D hD => ho.frame D (Array.getElem?_eq_some_iff.1 hD).1 fun s o hs hb => (hr.objs _ _ (inL hs)).notDef hb _ hD), ?_, ho.heap, ?_, ?_, hr.ext.trans ho.ext, fun b h0 hb => ho.fresh b (hr.fresh b h0 hb) (Nat.lt_of_lt_of_le hb hr.grow),
    ho.os.trans hr.os, ho.tape.trans hr.tape, ho.output.trans hr.output, Nat.le_trans hr.grow ho.grow, ?_, hr.xs, ?_, hr.pinlo, ?_⟩
  · intro t av ht
    rw [get_killFs] at ht
    obtain ⟨av0, h0, rfl⟩ := Option.map_eq_some_iff.1 ht
    have := hr.fr t av0 h0
    exact ⟨this.1, vrel_kills off (this.2.mono ho.ext)⟩
  · intro t x hx
    rcases get_putAll hx with ⟨c, o, hm, rfl, rfl⟩ | ⟨hno, hx'⟩
    · have h1 := ho.objs c o (get_of_mem hndo hm)
      rw [r1 c (nmOut hm)]
      have h2 := orel_agree (ρ' := fun c => ρ2 (sig σ c)) (ns := Lin.map (·.1) ++ nn) (fun n hn => r1 n hn) (List.all_eq_true.1 hin _ hm) h1
      exact orel_ren.1 (h2.own_mono fun b hb => ownOk b (h2.block hb).1)
    · rw [get_killLs] at hx'
      obtain ⟨x0, hx0, rfl⟩ := Option.map_eq_some_iff.1 hx'
      rw [offL hno]
      have hb := hr.objs t x0 hx0
      exact orel_kills off (hb.toHeap ho.ext (other hno hx0) fun b hbl => ho.fresh b (hb.block hbl).2.1 (hb.block hbl).2.2)
  · have lentOther : ∀ {c o t x b}, (c, o) ∈ Lout → (∀ c o, (c, o) ∈ Lout → sig σ c ≠ t) → get L t = some x → Blk (ρ' c) b → ¬ Blk (ρ t) b := by
      intro c o t x b hm hno hx hb ht
      have h1 := (ho.objs c o (get_of_mem hndo hm)).block hb
      rcases h1.1 with hge | ⟨s, p, hs, hbs⟩
      · have := ((hr.objs t x hx).block ht).2.2
        omega
      · obtain ⟨o', hm'⟩ := inOut (nmIn hs)
        exact hr.apart (sig σ s) t _ x b (hno _ _ hm') (inL hs) hx hbs ht
    intro t t' x x' b hne hx hx' hb hb'
    rcases get_putAll hx with ⟨c, o, hm, rfl, rfl⟩ | ⟨hno, hx1⟩
    · rw [r1 c (nmOut hm)] at hb
      rcases get_putAll hx' with ⟨c', o', hm', rfl, rfl⟩ | ⟨hno', hx1'⟩
      · rw [r1 c' (nmOut hm')] at hb'
        exact ho.apart c c' o o' b (fun e => hne (by rw [e])) (get_of_mem hndo hm) (get_of_mem hndo hm') hb hb'
      · rw [offL hno'] at hb'
        rw [get_killLs] at hx1'
        obtain ⟨x0, hx0, rfl⟩ := Option.map_eq_some_iff.1 hx1'
        exact lentOther hm hno' hx0 hb hb'
    · rw [offL hno] at hb
      rw [get_killLs] at hx1
      obtain ⟨x0, hx0, rfl⟩ := Option.map_eq_some_iff.1 hx1
      rcases get_putAll hx' with ⟨c', o', hm', rfl, rfl⟩ | ⟨hno', hx1'⟩
      · rw [r1 c' (nmOut hm')] at hb'
        exact lentOther hm' hno hx0 hb' hb
      · rw [offL hno'] at hb'
        rw [get_killLs] at hx1'
        obtain ⟨x0', hx0', rfl⟩ := Option.map_eq_some_iff.1 hx1'
        exact hr.apart _ _ _ _ b hne hx0 hx0' hb hb'
  · intro b hb hX
    rw [ho.frame b (Nat.lt_of_lt_of_le hb hr.grow) fun s o hs hbl => ?_]
    · exact hr.frame b hb hX
    · rcases ((hr.objs _ _ (inL hs)).block hbl).1 with h1 | h1
      · omega
      · exact hX h1
  · intro s v hs
    rw [off s fun hm => ?_]
    · exact hr.pin s v hs
    · have hok : nameOk s = true := by
        rcases List.mem_append.1 hm with hm | hm
        · rcases Bool.or_eq_true_iff.1 hmv with h1 | h1
          · have := List.all_eq_true.1 h1 s hm
            simp only [decide_eq_true_eq] at this
            simp [nameOk, this]
          · have := List.all_eq_true.1 h1 s hm
            simp only [decide_eq_true_eq] at this
            simp [nameOk, this]
        · obtain ⟨c, hc, rfl⟩ := List.mem_map.1 hm
          have := List.all_eq_true.1 hnlo' c hc
          simp only [decide_eq_true_eq] at this
          simp [nameOk, this]
      have := hr.pinlo s hok
      rw [this] at hs; cases hs
  · intro t x b hx hlt hb
    rcases get_putAll hx with ⟨c, o, hm, rfl, rfl⟩ | ⟨hno, hx1⟩
    · rw [r1 c (nmOut hm)] at hb
      rcases memIn hm with ⟨p, hp⟩ | hnew
      · cases hn : nameOk c with
        | false =>
          rw [pinned hp hn] at hb
          exact hr.low _ _ b (inL hp) hlt hb
        | true =>
          have hmem := moved hp hn
          have hall : (movedOf σ Lin).all (fun s => decide (s < 1000)) = true := by
            rcases Bool.or_eq_true_iff.1 hmv with h1 | h1
            · exact h1
            · have := List.all_eq_true.1 h1 _ hmem
              simp only [decide_eq_true_eq] at this
              omega
          have h1 := (ho.objs c o (get_of_mem hndo hm)).block hb
          rcases h1.1 with hge | ⟨s, q, hs, hbs⟩
          · exact Nat.le_trans hr.grow hge
          · cases hns : nameOk s with
            | true =>
              have hms := List.all_eq_true.1 hall _ (moved hs hns)
              simp only [decide_eq_true_eq] at hms
              exact hr.low _ _ b (inL hs) hms hbs
            | false =>
              exfalso
              obtain ⟨o', hm'⟩ := inOut (nmIn hs)
              have hbs' : Blk (ρ' s) b := by rw [pinned hs hns]; exact hbs
              have hsc : s ≠ c := by rintro rfl; rw [hn] at hns; cases hns
              exact ho.apart s c o' o b hsc (get_of_mem hndo hm') (get_of_mem hndo hm) hbs' hb
      · have h1 := List.all_eq_true.1 hnlo c hnew
        simp only [decide_eq_true_eq] at h1
        exact Nat.le_trans hr.grow (ho.low c o b (get_of_mem hndo hm) h1 hb)
    · rw [offL hno] at hb
      rw [get_killLs] at hx1
      obtain ⟨x0, hx0, rfl⟩ := Option.map_eq_some_iff.1 hx1
      exact hr.low _ _ b hx0 hlt hb

variable {Q : Post}
theorem WO_lend3 {ops : Array Oper} {i j : Nat} {us : List (Option Ty)} {f : Nat} {as : List AV} {d : Nat} {p : Prop} {R : AV} {Lin Lout : LL} (σ : List (Nat × Nat)) (nn : List Nat) (hj : j = i + 1)
    (hc : CallAt C ops i fr us f (as.map (AV.ren (sig σ))) d p) (hp : p) (hF : FnC C.P f as Lin R Lout)
    (hL : keep (Lin.map fun p => sig σ p.1) L = some (Lin.map fun p => (sig σ p.1, p.2.ren (sig σ)))) (hk : (lendOk3 σ Lin Lout nn && R.inM (Lin.map (·.1) ++ nn)) = true)
    (hn : WO C ops j Q (putF (killFs (anew σ Lin nn) fr) d (R.ren (sig σ))) (putAll σ Lout (killLs (anew σ Lin nn) L))) : WO C ops i Q fr L := by
  intro a w ⟨h, ρ, hr⟩
  simp only [Bool.and_eq_true] at hk
  obtain ⟨hk, hR⟩ := hk
  have hk0 := hk
  unfold lendOk3 at hk0
  simp only [Bool.and_eq_true, decide_eq_true_eq] at hk0
  obtain ⟨⟨⟨⟨⟨⟨hnd, hsnd⟩, _⟩, _⟩, _⟩, _⟩, _⟩ := hk0
  have hok := hc.ok
  split at hok
  · rename_i o ho
    split at hok
    · rename_i gd q hg
      obtain ⟨⟨f', as0⟩, hcall, hd⟩ := Option.bind_eq_some_iff.1 hok
      obtain ⟨as', hco, hd⟩ := Option.bind_eq_some_iff.1 hd
      obtain ⟨d', hdst, he⟩ := Option.map_eq_some_iff.1 hd
      simp only [Prod.mk.injEq] at he
      obtain ⟨rfl, rfl, rfl, rfl⟩ := he
      obtain ⟨hw, hgd⟩ := guardIs_spec hr hg hp
      obtain ⟨vs, hrun, hall0⟩ := callOf_spec hr hgd hcall hc.fn
      have hall := coer_spec _ _ _ _ hco hall0
      have hlen : i < ops.toList.length := by
        have := (Array.getElem?_eq_some_iff.1 ho).1; simpa using this
      have hdrop : ops.toList.drop i = o :: ops.toList.drop j := by
        rw [hj, ← List.getElem_cons_drop hlen]
        congr 1
        have := (Array.getElem?_eq_some_iff.1 ho).2
        simpa using this
      rw [hdrop]
      refine wpList_step fun K hK => ?_
      rw [if_pos hw]
      unfold Oper.wp
      rw [hrun, Oper.upon_enter]
      have inL : ∀ {c o}, get Lin c = some o → get L (sig σ c) = some (o.ren (sig σ)) := fun hg => keep_map hL (get_mem _ _ _ hg)
      refine (hF h (fun c => ρ (sig σ c)) w vs hr.heap (fun s o hs => orel_ren.2 ((hr.objs _ _ (inL hs)).own_mono fun _ _ => trivial)) ?_ (all2_vrel_ren hall)).mono ?_
      · intro s s' o1 o2 b hne hs hs' hb
        refine hr.apart (sig σ s) (sig σ s') _ _ b (fun e => hne ?_) (inL hs) (inL hs') hb
        exact nodup_map_inj hsnd (List.mem_append_left _ (List.mem_map.2 ⟨_, get_mem _ _ _ hs, rfl⟩)) (List.mem_append_left _ (List.mem_map.2 ⟨_, get_mem _ _ _ hs', rfl⟩)) e
      · rintro e w' ⟨v, h', ρ', rfl, hrel, hout⟩
        refine hK _ _ (hn _ _ ?_)
        rw [hdst]
        obtain ⟨ρ2, hρ, hr2⟩ := hr.lend3 hk hL hout
        refine ⟨h', ρ2, hr2.putSlot d' _ v (of_decide_eq_true hc.lt) ?_⟩
        cases R with
        | one x => exact srel_result hρ hR hrel
        | tup xs =>
          obtain ⟨us, rfl, hall2⟩ := hrel
          exact ⟨us, rfl, all2_result hρ hR hall2⟩
        | agg xs =>
          obtain ⟨us, rfl, hall2⟩ := hrel
          exact ⟨us, rfl, all2_result hρ hR hall2⟩
        | mb _ _ _ => simp [AV.inM] at hR
    · simp at hok
  · simp at hok
end

/-- a nil slice in a struct, as an object that can grow -/
def aggOwn (fr : Fr) (t i s : Nat) : Option Fr :=
  match get fr t with
  | some (.agg cs) => match cs[i]? with
    | some .nilS => if s < 1000 then some ((t, .agg ((cs.map (SV.kill s)).set i (.slc s))) :: killF s fr) else none
    | _ => none
  | _ => none
def aggOwnT (fr : Fr) (t i s : Nat) : Fr := (aggOwn fr t i s).getD fr
section
variable {C : Ctx} {fr : Fr} {L : LL} {a : Act} {w : World}
theorem Rel.aggOwn {t i s : Nat} {u : Ty} {fr' : Fr} (hr : Rel C fr L a w) (h : Sl.aggOwn fr t i s = some fr') : Rel C fr' (newL s (.seq u []) L) a w := by
  unfold Sl.aggOwn at h
  split at h
  · rename_i cs hx
    split at h
    · rename_i hc
      split at h
      · rename_i hlt
        simp only [Option.some.injEq] at h; subst h
        obtain ⟨h, ρ, hr⟩ := hr
        have hnm : nameOk s = true := by simp [nameOk, hlt]
        have hnew := hr.fresh_name s hnm (.slice none 0 0) (.seq u []) w rfl rfl rfl (Nat.le_refl _) none (fun b hb => by cases hb) (fun _ _ _ => rfl) (.inl ⟨rfl, rfl⟩) (fun b hb => by simp [Blk] at hb) (fun _ b hb => by simp [Blk] at hb)
        refine ⟨h, _, { hnew with fr := fun k av hk => ?_ }⟩
        rw [get] at hk
        split at hk
        · rename_i htk; subst htk
          simp only [Option.some.injEq] at hk; subst hk
          obtain ⟨h1, h2⟩ := hr.fr t _ hx
          obtain ⟨vs, hv, hall⟩ := h2
          refine ⟨h1, vs, hv, ?_⟩
          refine all2_set i (a := .nilS) (all2_kill hall) (by rw [List.getElem?_map, hc]; rfl) fun v hv => ?_
          have hv : v = .slice none 0 0 := hv
          subst hv
          exact ⟨by simp [upd]; rfl, rfl⟩
        · exact hnew.fr k av hk
      · simp at h
    · simp at h
  · simp at h
variable {Q : Post} {c : Code} {ops : Array Oper} {e : Exit}
theorem W_aggown (t i s : Nat) (u : Ty) (h : (aggOwn fr t i s).isSome = true) (hw : W C c Q (aggOwnT fr t i s) (newL s (.seq u []) L)) : W C c Q fr L := by
  obtain ⟨f, hf⟩ := Option.isSome_iff_exists.1 h
  unfold aggOwnT at hw; rw [hf] at hw
  exact fun a w hr => hw a w (hr.aggOwn hf)
theorem WO_aggown {j : Nat} (t i s : Nat) (u : Ty) (h : (aggOwn fr t i s).isSome = true) (hw : WO C ops j Q (aggOwnT fr t i s) (newL s (.seq u []) L)) : WO C ops j Q fr L := by
  obtain ⟨f, hf⟩ := Option.isSome_iff_exists.1 h
  unfold aggOwnT at hw; rw [hf] at hw
  exact fun a w hr => hw a w (hr.aggOwn hf)
theorem LT_aggown (t i s : Nat) (u : Ty) (h : (aggOwn fr t i s).isSome = true) (hw : LT C Q e (aggOwnT fr t i s) (newL s (.seq u []) L)) : LT C Q e fr L := by
  obtain ⟨f, hf⟩ := Option.isSome_iff_exists.1 h
  unfold aggOwnT at hw; rw [hf] at hw
  exact fun a w hr => hw a w (hr.aggOwn hf)
end
end Go.Sl

/- Calls in general, as steps of a chain in regions that draw their order. -/
namespace Go.Sl
open Go
section
variable {C : Ctx} {L : LL}
/-- a call in general, as a step of a chain -/
theorem lend3_step {ops : Array Oper} {i : Nat} {us : List (Option Ty)} {f : Nat} {as : List AV} {d : Nat} {p : Prop} {R : AV} {Lin Lout : LL} {frI : Fr} (σ : List (Nat × Nat)) (nn : List Nat)
    (hc : CallAt C ops i frI us f (as.map (AV.ren (sig σ))) d p) (hp : p) (hF : FnC C.P f as Lin R Lout)
    (hL : keep (Lin.map fun p => sig σ p.1) L = some (Lin.map fun p => (sig σ p.1, p.2.ren (sig σ)))) (hk : (lendOk3 σ Lin Lout nn && R.inM (Lin.map (·.1) ++ nn)) = true) : CStep C ops i d (anew σ Lin nn) (putsOf σ Lout) (R.ren (sig σ)) frI L := by
  intro F Lp a w hFc hLp ⟨h, ρ, hr⟩ Q K hK
  have hrI : RelH C h ρ frI Lp a w := { hr with fr := fun t v ht => hr.fr t v (hFc (t, v) (get_mem _ _ _ ht)) }
  have hL := keep_cover hLp hL
  simp only [Bool.and_eq_true] at hk
  obtain ⟨hk, hR⟩ := hk
  have hk0 := hk
  unfold lendOk3 at hk0
  simp only [Bool.and_eq_true, decide_eq_true_eq] at hk0
  obtain ⟨⟨⟨⟨⟨⟨hnd, hsnd⟩, _⟩, _⟩, _⟩, _⟩, _⟩ := hk0
  have hok := hc.ok
  split at hok
  · rename_i o ho
    split at hok
    · rename_i gd q hg
      obtain ⟨⟨f', as0⟩, hcall, hd⟩ := Option.bind_eq_some_iff.1 hok
      obtain ⟨as', hco, hd⟩ := Option.bind_eq_some_iff.1 hd
      obtain ⟨d', hdst, he⟩ := Option.map_eq_some_iff.1 hd
      simp only [Prod.mk.injEq] at he
      obtain ⟨rfl, rfl, rfl, rfl⟩ := he
      obtain ⟨hw, hgd⟩ := guardIs_spec hrI hg hp
      obtain ⟨vs, hrun, hall0⟩ := callOf_spec hrI hgd hcall hc.fn
      have hall := coer_spec _ _ _ _ hco hall0
      unfold wpOp
      rw [ho]
      simp only
      rw [if_pos hw]
      left
      unfold Oper.wp
      rw [hrun, Oper.upon_enter]
      have inL : ∀ {c o}, get Lin c = some o → get Lp (sig σ c) = some (o.ren (sig σ)) := fun hg => keep_map hL (get_mem _ _ _ hg)
      refine (hF h (fun c => ρ (sig σ c)) w vs hr.heap (fun s o hs => orel_ren.2 ((hr.objs _ _ (inL hs)).own_mono fun _ _ => trivial)) ?_ (all2_vrel_ren hall)).mono ?_
      · intro s s' o1 o2 b hne hs hs' hb
        refine hr.apart (sig σ s) (sig σ s') _ _ b (fun e => hne ?_) (inL hs) (inL hs') hb
        exact nodup_map_inj hsnd (List.mem_append_left _ (List.mem_map.2 ⟨_, get_mem _ _ _ hs, rfl⟩)) (List.mem_append_left _ (List.mem_map.2 ⟨_, get_mem _ _ _ hs', rfl⟩)) e
      · rintro e w' ⟨v, h', ρ', rfl, hrel, hout⟩
        refine hK _ _ ?_
        rw [hdst]
        obtain ⟨ρ2, hρ, hr2⟩ := hr.lend3 hk hL hout
        have hr3 : RelH C h' ρ2 (killFs (anew σ Lin nn) F) (nextL (anew σ Lin nn) (putsOf σ Lout) Lp) a w' := by
          refine hr2.less (fun s o hs => ?_)
          rw [get_nextL'] at hs
          rw [get_putAll']
          cases hq : get (putsOf σ Lout) s with
          | some o' => rw [hq] at hs; exact hs
          | none =>
            rw [hq] at hs
            simp only at hs
            split at hs
            · cases hs
            · rw [get_killLs]; exact hs
        refine ⟨h', ρ2, hr3.putSlot d' _ v (of_decide_eq_true hc.lt) ?_⟩
        cases R with
        | one x => exact srel_result hρ hR hrel
        | tup xs =>
          obtain ⟨us, rfl, hall2⟩ := hrel
          exact ⟨us, rfl, all2_result hρ hR hall2⟩
        | agg xs =>
          obtain ⟨us, rfl, hall2⟩ := hrel
          exact ⟨us, rfl, all2_result hρ hR hall2⟩
        | mb _ _ _ => simp [AV.inM] at hR
    · simp at hok
  · simp at hok

theorem chLend3 {ops : Array Oper} {ch r : Chain} {out : List (Nat × AV)} {base : Fr} {q i : Nat} {us : List (Option Ty)} {f : Nat} {as : List AV} {d : Nat} {p : Prop} {R : AV} {Lin Lout puts : LL} {ns : List Nat} (σ : List (Nat × Nat)) (nn : List Nat)
    (hc : CallAt C ops i (frC ch out base (match ops[i]? with | some o => edgesOf o | none => []) q) us f (as.map (AV.ren (sig σ))) d p) (hp : p) (hF : FnC C.P f as Lin R Lout)
    (hL : keep (Lin.map fun p => sig σ p.1) (ch.at q L) = some (Lin.map fun p => (sig σ p.1, p.2.ren (sig σ)))) (hk : (lendOk3 σ Lin Lout nn && R.inM (Lin.map (·.1) ++ nn)) = true) (hns : ns = anew σ Lin nn) (hputs : puts = putsOf σ Lout)
    (ho : out[i]? = some (d, R.ren (sig σ))) (tl : AllCh C ops ch out base L (q + 1) r) : AllCh C ops ch out base L q ((i, ns, puts) :: r) := by
  have hst := lend3_step (L := ch.at q L) σ nn hc hp hF hL hk
  obtain ⟨o, hoi, hd⟩ := callAt_dst hc
  rw [hoi] at hst
  subst hputs hns
  exact ⟨⟨o, d, _, hoi, hd, ho, hst⟩, tl⟩
end
end Go.Sl

/- Regions that draw their order, in which a variable is read by operations that come ahead of the one that sets it anew. -/
namespace Go.Sl
open Go
section
variable {C : Ctx} {fr : Fr} {L : LL}

/-- the old values of variables that are set anew in the region, for an operation that all who set them wait for -/
def oldFr (ops : Array Oper) (m : Nat) (fr : Fr) (i : Nat) : Fr :=
  fr.filter fun p => p.2.sure && ((List.range m).any fun k => match ops[k]? with | some o => o.dst == some p.1 && (edgesOf o).contains i | none => false)
theorem oldFr_spec {ops : Array Oper} {m i : Nat} {p : Nat × AV} (h : p ∈ oldFr ops m fr i) : p ∈ fr ∧ p.2.sure = true ∧ ∃ k o, k < m ∧ ops[k]? = some o ∧ o.dst = some p.1 ∧ i ∈ edgesOf o := by
  unfold oldFr at h
  obtain ⟨h1, h2⟩ := List.mem_filter.1 h
  rw [Bool.and_eq_true, List.any_eq_true] at h2
  obtain ⟨h2, k, hk, h3⟩ := h2
  refine ⟨h1, h2, ?_⟩
  split at h3
  · rename_i o ho
    rw [Bool.and_eq_true, beq_iff_eq] at h3
    exact ⟨k, o, by simpa using hk, ho, h3.1, by simpa using h3.2⟩
  · cases h3
def OldOk (C : Ctx) (ops : Array Oper) (m : Nat) (fr : Fr) (listed : Array Bool) (h : Heap) (ρ : Nat → Value) (a : Act) : Prop :=
  ∀ k o d av, k < m → ops[k]? = some o → o.dst = some d → listed.getD k false = false → get fr d = some av → av.sure = true → d < C.n ∧ VRel h ρ a.tmps av (a.tmps.getD d undef)

theorem W_drawH {B : Code} {p : List Nat} {Q : Post} {fr' : Fr} {L' : LL} (m : Nat) (orcs : List (Nat × Orc)) (kF kL : List Nat) {out : List (Nat × AV)} {obs2 : List Prop} (hdr : isDraw (nav B p) = true)
    (hm : C.P.follows .mixedOrders = true) (hok : (drawOk (opsOf (nav B p)) m && dstOk C.n (opsOf (nav B p)) && once fr) = true) (houtlen : out.length = m)
    (hent0 : ∀ i o, i < m → (opsOf (nav B p))[i]? = some o → ∃ d av, o.dst = some d ∧ out[i]? = some (d, av) ∧ Drawn C (opsOf (nav B p)) i d av (pick (out.take i) (edgesOf o) ++ (oldFr (opsOf (nav B p)) m fr i ++ baseFr (opsOf (nav B p)) m fr)) L ∧
      (∀ g b x, av = .mb g b x → ∃ j, o.guard = some (j, b) ∧ guardSlot (opsOf (nav B p)) j = some g))
    (htail : (match run C.P (opsOf (nav B p)) orcs m ((opsOf (nav B p)).toList.drop m) (out ++ baseFr (opsOf (nav B p)) m fr) L with | some (f, l, ob) => (restr kF kL f l).map fun r => (r.1, r.2, ob) | none => none) = some (fr', L', obs2)) (ho2 : AllP obs2)
    (hn : Q .normal fr' L') : W C (nav B p) Q fr L := by
  simp only [Bool.and_eq_true] at hok
  obtain ⟨⟨hok, hdok⟩, honce⟩ := hok
  generalize hops : opsOf (nav B p) = ops at *
  intro a w hr
  cases hc : nav B p <;> simp only [hc, isDraw, Bool.false_eq_true] at hdr
  rename_i id ops' d
  rw [hc] at hops
  simp only [opsOf] at hops
  simp only [Bool.and_eq_true] at hdr
  obtain ⟨hdr, hpl⟩ := hdr
  subst hops hdr
  split at htail
  · rename_i f l ob hrun
    obtain ⟨⟨f', l'⟩, hre, hee⟩ := Option.map_eq_some_iff.1 htail
    simp only [Prod.mk.injEq] at hee
    obtain ⟨rfl, rfl, rfl⟩ := hee
    have hmle : m ≤ ops'.size := by
      unfold drawOk at hok
      simp only [Bool.and_eq_true, decide_eq_true_eq] at hok
      exact hok.1.1
    have hnodup : ((ops'.toList.take m).filterMap (·.dst)).Nodup := by
      unfold drawOk at hok
      simp only [Bool.and_eq_true, decide_eq_true_eq] at hok
      exact hok.2
    have hent : ∀ i o, i < m → ops'[i]? = some o → ∃ d av, o.dst = some d ∧ out[i]? = some (d, av) ∧ Drawn C ops' i d av (pick (out.take i) (edgesOf o) ++ (oldFr ops' m fr i ++ baseFr ops' m fr)) L ∧
      (∀ g b x, av = .mb g b x → ∃ j, o.guard = some (j, b) ∧ guardSlot ops' j = some g) := hent0
    -- two quiet operations write two slots
    have hdist : ∀ i j d av av', i < m → j < m → out[i]? = some (d, av) → out[j]? = some (d, av') → i = j := by
      intro i j d av av' hi hj h1 h2
      have key : ∀ k, k < m → ∃ o, ops'[k]? = some o ∧ ∃ d av, o.dst = some d ∧ out[k]? = some (d, av) := by
        intro k hk
        refine ⟨ops'[k], Array.getElem?_eq_getElem (by omega), ?_⟩
        obtain ⟨d, av, h1, h2, _⟩ := hent k _ hk (Array.getElem?_eq_getElem (by omega))
        exact ⟨d, av, h1, h2⟩
      have hds : (ops'.toList.take m).filterMap (·.dst) = out.map (·.1) := by
        apply List.ext_getElem?
        intro k
        have hall : ∀ o ∈ ops'.toList.take m, o.dst.isSome = true := by
          intro o ho
          obtain ⟨k, hk, rfl⟩ := List.getElem_of_mem ho
          have hkm : k < m := by simp at hk; omega
          obtain ⟨o', ho', d, av, hd, _⟩ := key k hkm
          have : ops'[k]? = some ops'[k] := Array.getElem?_eq_getElem (by omega)
          rw [this] at ho'
          obtain rfl := Option.some.inj ho'
          simp [hd]
        have hfm : ∀ (l : List Oper), (∀ o ∈ l, o.dst.isSome = true) → l.filterMap (·.dst) = l.map fun o => o.dst.getD 0 := by
          intro l
          induction l with
          | nil => intro _; rfl
          | cons o l ih =>
            intro hl
            have := hl o (by simp)
            cases hod : o.dst with
            | none => rw [hod] at this; simp at this
            | some d => simp [hod, ih (fun x hx => hl x (by simp [hx]))]
        rw [hfm _ hall]
        by_cases hk : k < m
        · obtain ⟨o', ho', d, av, hd, hout⟩ := key k hk
          simp [List.getElem?_take_of_lt hk, ho', hd, hout]
        · rw [List.getElem?_eq_none (by simp; omega), List.getElem?_eq_none (by simp; omega)]
      rw [hds] at hnodup
      have hi' : i < (out.map (·.1)).length := by simp; omega
      have hj' : j < (out.map (·.1)).length := by simp; omega
      have e1 : (out.map (·.1))[i] = d := by
        have : (out.map (·.1))[i]? = some d := by simp [h1]
        rw [List.getElem?_eq_getElem hi'] at this
        exact Option.some.inj this
      have e2 : (out.map (·.1))[j] = d := by
        have : (out.map (·.1))[j]? = some d := by simp [h2]
        rw [List.getElem?_eq_getElem hj'] at this
        exact Option.some.inj this
      exact (List.getElem_inj hnodup).1 (e1.trans e2.symm)
    have hdstin : ∀ i d av, i < m → out[i]? = some (d, av) → d ∈ (ops'.toList.take m).filterMap (·.dst) := by
      intro i d av hi h1
      obtain ⟨d', av', h2, h3, _⟩ := hent i ops'[i] hi (Array.getElem?_eq_getElem (by omega))
      rw [h1] at h3
      simp only [Option.some.injEq, Prod.mk.injEq] at h3
      obtain ⟨rfl, rfl⟩ := h3
      refine List.mem_filterMap.2 ⟨ops'[i], ?_, h2⟩
      rw [List.mem_iff_getElem?]
      exact ⟨i, by rw [List.getElem?_take_of_lt hi]; simp⟩
    -- the quiet phase
    have quiet : ∀ (fuel : Nat) (listed : Array Bool) (a : Act) (w : World), listed.size = ops'.size → (∀ i, m ≤ i → i < ops'.size → listed.getD i false = false) →
        (∀ i o, i < m → ops'[i]? = some o → listed.getD i false = true → ∀ j ∈ edgesOf o, listed.getD j false = true) →
        (∃ h ρ, Half C m (baseFr ops' m fr) L out listed h ρ a w ∧ OldOk C ops' m fr listed h ρ a) → ops'.size ≤ fuel + ((List.range ops'.size).filter fun i => listed.getD i false).length → wpAny C.P .any ops' (lift C (normQ Q)) fuel listed a w := by
      intro fuel
      induction fuel with
      | zero =>
        intro listed a w hls htl hdc ⟨h, ρ, hhalf, hold⟩ hcount
        -- all is listed
        have hall : ∀ i, i < ops'.size → listed.getD i false = true := by
          intro i hi
          have hlen : ((List.range ops'.size).filter fun i => listed.getD i false).length = (List.range ops'.size).length := by
            have := List.length_filter_le (fun i => listed.getD i false) (List.range ops'.size)
            simp at this hcount ⊢; omega
          have := List.length_filter_eq_length_iff.1 hlen i (by simpa using hi)
          simpa using this
        have hms : m = ops'.size := by
          rcases Nat.lt_or_ge m ops'.size with hlt | hge
          · have := htl m (Nat.le_refl _) hlt; rw [hall m hlt] at this; cases this
          · omega
        have hrelF := hhalf.frame out (fun x hx => by
          obtain ⟨j, hj, rfl⟩ := List.getElem_of_mem hx
          exact ⟨j, by omega, hall j (by omega), List.getElem?_eq_getElem hj⟩)
        exact draw_tail hok hdok 0 m _ L f l ob listed a w (by omega) (Nat.le_refl _) hls (fun i hi => by rw [hall i hi]; symm; exact decide_eq_true (by omega)) ⟨h, ρ, hrelF⟩ hrun ho2
          (fun a' w' hr' => ⟨f', l', hr'.keep (restr_spec hre).1 (restr_spec hre).2, rfl, hn⟩) 0 (Nat.le_refl _)
      | succ fuel ih =>
        intro listed a w hls htl hdc ⟨h, ρ, hhalf, hold⟩ hcount
        by_cases hdone : ∀ i, i < m → listed.getD i false = true
        · -- over to the tail
          have hrelF := hhalf.frame out (fun x hx => by
            obtain ⟨j, hj, rfl⟩ := List.getElem_of_mem hx
            exact ⟨j, by omega, hdone j (by omega), List.getElem?_eq_getElem hj⟩)
          have hlk : ∀ i, i < ops'.size → listed.getD i false = decide (i < m) := by
            intro i hi
            by_cases him : i < m
            · rw [hdone i him]; simp [him]
            · rw [htl i (by omega) hi]; simp [him]
          have hcnt : ((List.range ops'.size).filter fun i => listed.getD i false).length ≤ m := by
            have h1 : (List.range ops'.size).filter (fun i => listed.getD i false) = (List.range ops'.size).filter (fun i => decide (i < m)) := by
              apply List.filter_congr
              intro i hi
              exact hlk i (by simpa using hi)
            rw [h1]
            have h2 : (List.range ops'.size).filter (fun i => decide (i < m)) = List.range m := by
              have : ops'.size = m + (ops'.size - m) := by omega
              rw [this, List.range_add, List.filter_append]
              have e1 : (List.range m).filter (fun i => decide (i < m)) = List.range m := List.filter_eq_self.2 (by simp)
              have e2 : ((List.range (ops'.size - m)).map (m + ·)).filter (fun i => decide (i < m)) = [] := List.filter_eq_nil_iff.2 (by simp)
              rw [e1, e2]; simp
            rw [h2]; simp
          exact draw_tail hok hdok (ops'.size - m) m _ L f l ob listed a w (by omega) (Nat.le_refl _) hls hlk ⟨h, ρ, hrelF⟩ hrun ho2
            (fun a' w' hr' => ⟨f', l', hr'.keep (restr_spec hre).1 (restr_spec hre).2, rfl, hn⟩) (fuel + 1) (by omega)
        · -- some quiet operation is still to come
          obtain ⟨i0, hi0, hi0l⟩ : ∃ i, i < m ∧ listed.getD i false = false := by
            simp only [Classical.not_forall, Bool.not_eq_true] at hdone
            obtain ⟨i, hi, hil⟩ := hdone; exact ⟨i, hi, hil⟩
          have gd : ∀ i b, i < ops'.size → listed.getD i b = listed.getD i false := by
            intro i b hi
            rw [Array.getD_eq_getD_getElem?, Array.getD_eq_getD_getElem?, Array.getElem?_eq_getElem (by omega)]; rfl
          have hnonempty : Region.ready .any ops' listed ≠ [] := by
            -- the least one that is not listed
            have hex : ∃ i, i < ops'.size ∧ listed.getD i false = false ∧ ∀ j, j < i → listed.getD j false = true := by
              obtain ⟨k, ⟨hk1, hk2⟩, hk3⟩ := least_of (p := fun i => i < ops'.size ∧ listed.getD i false = false) i0 ⟨by omega, hi0l⟩
              refine ⟨k, hk1, hk2, fun j hj => ?_⟩
              have := hk3 j hj
              cases hq : listed.getD j false with
              | true => rfl
              | false => exact (this ⟨by omega, hq⟩).elim
            obtain ⟨k, hk1, hk2, hk3⟩ := hex
            intro hempty
            have : k ∈ Region.ready .any ops' listed := mem_ready'.2 ⟨hk1, by rw [gd k _ hk1]; exact hk2, ops'[k], Array.getElem?_eq_getElem hk1, fun j hj => hk3 j ((edges_lt hok (Array.getElem?_eq_getElem hk1)).1 j hj)⟩
            rw [hempty] at this; cases this
          refine ⟨fun e => (hnonempty e).elim, fun i hi => ?_⟩
          obtain ⟨h1, h2, o, ho1, ho2'⟩ := mem_ready'.1 hi
          rw [gd i _ h1] at h2
          have him : i < m := by
            rcases Nat.lt_or_ge i m with h3 | h3
            · exact h3
            · have := ho2' i0 ((edges_lt hok ho1).2.2.2 h3 i0 (by omega))
              rw [hi0l] at this; cases this
          obtain ⟨d, av, hd1, hout, hdrawn, _⟩ := hent i o him ho1
          have hdn : d < C.n := by
            have := List.all_eq_true.1 hdok o (by simpa using Array.mem_of_getElem? ho1)
            rw [hd1] at this; simpa using this
          -- the frame of those that it waits for
          have hrelI : RelH C h ρ (pick (out.take i) (edgesOf o) ++ (oldFr ops' m fr i ++ baseFr ops' m fr)) L a w := { hhalf.rel with
            fr := fun t x hx => by
              rcases get_append _ _ _ _ hx with hx | hx
              · obtain ⟨j, hj, hxj⟩ := mem_pick _ _ _ hx
                have hjlt := (edges_lt hok ho1).1 j hj
                rw [List.getElem?_take_of_lt hjlt] at hxj
                exact hhalf.done j t x (by omega) (ho2' j hj) hxj
              · rcases get_append _ _ _ _ hx with hx | hx
                · obtain ⟨hmem, hsu, k, ok, hk, hok', hkd, hki⟩ := oldFr_spec hx
                  refine hold k ok t x hk hok' hkd ?_ (once_get honce hmem) hsu
                  cases hkl : listed.getD k false with
                  | false => rfl
                  | true =>
                    have := hdc k ok hk hok' hkl i hki
                    rw [h2] at this; cases this
                · exact hhalf.rel.fr t x hx }
          -- what becomes of it
          have next : ∀ (h' : Heap) (v : Value) (w' : World), Ext h h' → (∀ frx, RelH C h ρ frx L a w → RelH C h' ρ frx L a w') → VRel h' ρ (a.tmps.setIfInBounds d v) av v → wpAny C.P .any ops' (lift C (normQ Q)) fuel (listed.setIfInBounds i true) (a.put (some d) v) w' := by
            intro h' v w' hext hlift hv
            refine ih (listed.setIfInBounds i true) _ w' (by simp [hls]) ?_ ?_ ?_ ?_
            · intro k hk hk2
              rw [Array.getD_eq_getD_getElem?, Array.getElem?_setIfInBounds, if_neg (by omega), ← Array.getD_eq_getD_getElem?]
              exact htl k hk hk2
            · intro k ok hk hok' hkl j hj
              have old : listed.getD j false = true → (listed.setIfInBounds i true).getD j false = true := by
                intro hjl
                rw [Array.getD_eq_getD_getElem?, Array.getElem?_setIfInBounds]
                split
                · rename_i hij; subst hij; simp [hls, h1]
                · rw [← Array.getD_eq_getD_getElem?]; exact hjl
              by_cases hik : i = k
              · subst hik
                rw [ho1] at hok'
                obtain rfl := Option.some.inj hok'
                exact old (ho2' j hj)
              · rw [Array.getD_eq_getD_getElem?, Array.getElem?_setIfInBounds, if_neg hik, ← Array.getD_eq_getD_getElem?] at hkl
                exact old (hdc k ok hk hok' hkl j hj)
            · refine ⟨h', ρ, ⟨?_, ?_⟩, ?_⟩
              · refine { (hlift _ hhalf.rel) with size := by simp [Act.put, hhalf.rel.size], defers := (hlift _ hhalf.rel).defers, fr := fun t x hx => ?_ }
                obtain ⟨hb1, hb2⟩ := base_spec hx
                obtain ⟨h3, h4⟩ := (hlift _ hhalf.rel).fr t x hx
                have hne : d ≠ t := by
                  rintro rfl
                  exact hb1 (hdstin i d av him hout)
                refine ⟨h3, ?_⟩
                have : (a.put (some d) v).tmps.getD t undef = a.tmps.getD t undef := by
                  simp [Act.put, Array.getD_eq_getD_getElem?, Array.getElem?_setIfInBounds, hne]
                rw [this]
                exact h4.anyTm hb2
              · intro k dk avk hk hkl hko
                by_cases hik : i = k
                · subst hik
                  rw [hout] at hko
                  simp only [Option.some.injEq, Prod.mk.injEq] at hko
                  obtain ⟨rfl, rfl⟩ := hko
                  refine ⟨hdn, ?_⟩
                  have : (a.put (some d) v).tmps.getD d undef = v := by simp [Act.put, hhalf.rel.size, hdn]
                  rw [this]; exact hv
                · rw [Array.getD_eq_getD_getElem?, Array.getElem?_setIfInBounds, if_neg hik, ← Array.getD_eq_getD_getElem?] at hkl
                  obtain ⟨h3, h40⟩ := hhalf.done k dk avk hk hkl hko
                  have h4 := h40.mono hext
                  have hne : d ≠ dk := by
                    rintro rfl
                    exact hik (hdist i k d av avk him hk hout hko)
                  refine ⟨h3, ?_⟩
                  have : (a.put (some d) v).tmps.getD dk undef = a.tmps.getD dk undef := by
                    simp [Act.put, Array.getD_eq_getD_getElem?, Array.getElem?_setIfInBounds, hne]
                  rw [this]
                  cases avk with
                  | mb g b x =>
                    intro ht
                    refine h4 ?_
                    -- the slot that it looks at was written before
                    obtain ⟨dk', avk', e1, e2, _, e4⟩ := hent k ops'[k] hk (Array.getElem?_eq_getElem (by omega))
                    rw [hko] at e2
                    simp only [Option.some.injEq, Prod.mk.injEq] at e2
                    obtain ⟨rfl, rfl⟩ := e2
                    obtain ⟨j, hgd, hgs⟩ := e4 g b x rfl
                    have hjE := (edges_lt hok (Array.getElem?_eq_getElem (show k < ops'.size by omega))).2.1 j b hgd
                    have hjl := hdc k ops'[k] hk (Array.getElem?_eq_getElem (by omega)) hkl j hjE
                    have hjlt := (edges_lt hok (Array.getElem?_eq_getElem (show k < ops'.size by omega))).1 j hjE
                    have hgd' : d ≠ g := by
                      intro hdg0
                      unfold guardSlot at hgs
                      obtain ⟨oj, hoj, hdj⟩ := Option.bind_eq_some_iff.1 hgs
                      obtain ⟨dj, avj, f1, f2, _⟩ := hent j oj (by omega) hoj
                      rw [hdj, ← hdg0] at f1
                      rw [← Option.some.inj f1] at f2
                      have := hdist i j d av avj him (by omega) hout f2
                      subst this
                      rw [h2] at hjl; cases hjl
                    have : (a.put (some d) v).tmps[g]? = a.tmps[g]? := by
                      simp [Act.put, Array.getElem?_setIfInBounds, hgd']
                    rw [this] at ht; exact ht
                  | _ => exact h4
              · intro k ok dk avk hk hok' hkd hkl hget hsu
                have hik : i ≠ k := by
                  rintro rfl
                  rw [Array.getD_eq_getD_getElem?, Array.getElem?_setIfInBounds, if_pos rfl, if_pos (by omega)] at hkl
                  cases hkl
                rw [Array.getD_eq_getD_getElem?, Array.getElem?_setIfInBounds, if_neg hik, ← Array.getD_eq_getD_getElem?] at hkl
                obtain ⟨h3, h40⟩ := hold k ok dk avk hk hok' hkd hkl hget hsu
                have hne : d ≠ dk := by
                  rintro rfl
                  obtain ⟨d', av', e1, e2, _⟩ := hent k ok hk hok'
                  rw [hkd] at e1
                  rw [← Option.some.inj e1] at e2
                  exact hik (hdist i k d av av' him hk hout e2)
                refine ⟨h3, ?_⟩
                have : (a.put (some d) v).tmps.getD dk undef = a.tmps.getD dk undef := by
                  simp [Act.put, Array.getD_eq_getD_getElem?, Array.getElem?_setIfInBounds, hne]
                rw [this]
                exact (h40.mono hext).anyTm hsu
            · have : ((List.range ops'.size).filter fun k => (listed.setIfInBounds i true).getD k false).length = ((List.range ops'.size).filter fun k => listed.getD k false).length + 1 := by
                have hset : ∀ k, k < ops'.size → (listed.setIfInBounds i true).getD k false = (decide (k = i) || listed.getD k false) := by
                  intro k hk
                  rw [Array.getD_eq_getD_getElem?, Array.getElem?_setIfInBounds]
                  by_cases hik : i = k
                  · subst hik; simp [hls, h1]
                  · rw [if_neg hik, ← Array.getD_eq_getD_getElem?]; simp [Ne.symm hik]
                rw [List.filter_congr (q := fun k => decide (k = i) || listed.getD k false) (fun k hk => hset k (by simpa using hk))]
                exact count_one ops'.size i (fun k => listed.getD k false) h1 h2
              rw [this]; omega
          exact hdrawn h ρ a w hrelI _ _ (fun h' v w' e1 e2 e3 => next h' v w' e1 (fun frx => e2 frx L (fun _ _ e => e)) e3)
    refine region_any hpl hm (quiet ops'.size _ a _ (by simp) (fun i _ hi => by simp [Array.getD_eq_getD_getElem?, hi]) (fun i o hi ho hl => ?_) ?_ (by omega))
    · rw [Array.getD_eq_getD_getElem?] at hl
      simp [show i < ops'.size by omega] at hl
    · obtain ⟨h, ρ, hr'⟩ := hr.drawn
      refine ⟨h, ρ, ⟨{ hr' with fr := base_get (fun p hp => hr'.fr p.1 p.2 (once_get honce hp)) }, fun i d av hi hl => ?_⟩, fun k ok d av hk hok' hkd _ hget hsu => hr'.fr d av hget⟩
      rw [Array.getD_eq_getD_getElem?] at hl
      simp [show i < ops'.size by omega] at hl
  · simp at htail

def entsH (P : Program) (ops : Array Oper) (fr0 : Nat → Fr) (L : LL) (orcs : List (Nat × Orc)) (cs : List (Nat × List (Option Ty) × AV)) : Nat → List Oper → List (Nat × AV) → Option (List (Nat × AV) × List Prop × List (Nat × List AV × AV))
  | _, [], acc => some (acc, [], [])
  | i, o :: r, acc =>
    match o.dst with
    | some d =>
      match get cs i with
      | some (us, R) =>
        match cDraw ops (pick acc (edgesOf o) ++ fr0 i) us o with
        | some (f, as, q) =>
          match entsH P ops fr0 L orcs cs (i + 1) r (acc ++ [(d, R)]) with
          | some (l, obs, calls) => some (l, q :: obs, (f, as, R) :: calls)
          | none => none
        | none => none
      | none =>
        match kDraw P ops (pick acc (edgesOf o) ++ fr0 i) L (get orcs (2 * i)) (get orcs (2 * i + 1)) o with
        | some (av, p) =>
          match entsH P ops fr0 L orcs cs (i + 1) r (acc ++ [(d, av)]) with
          | some (l, obs, calls) => some (l, p ++ obs, calls)
          | none => none
        | none => none
    | none => none

theorem entsH_spec {ops : Array Oper} {fr0 : Nat → Fr} {orcs : List (Nat × Orc)} {cs : List (Nat × List (Option Ty) × AV)} : ∀ (l : List Oper) (i : Nat) (acc out : List (Nat × AV)) (obs : List Prop) (calls : List (Nat × List AV × AV)), acc.length = i →
    entsH C.P ops fr0 L orcs cs i l acc = some (out, obs, calls) → AllP obs → AllC C.P calls → (∀ k o, l[k]? = some o → ops[i + k]? = some o) →
    out.length = i + l.length ∧ (∀ k, k < i → out[k]? = acc[k]?) ∧ ∀ k o, l[k]? = some o → ∃ d av, o.dst = some d ∧ out[i + k]? = some (d, av) ∧ Drawn C ops (i + k) d av (pick (out.take (i + k)) (edgesOf o) ++ fr0 (i + k)) L ∧
      (∀ g b x, av = .mb g b x → ∃ j, o.guard = some (j, b) ∧ guardSlot ops j = some g)
  | [], i, acc, out, obs, calls, hl, h, _, _, _ => by
    simp only [entsH, Option.some.injEq, Prod.mk.injEq] at h
    obtain ⟨rfl, _⟩ := h
    exact ⟨by simp [hl], fun _ _ => rfl, fun k o hk => by simp at hk⟩
  | o :: l, i, acc, out, obs, calls, hl, h, ho, hcl, hops => by
    have fin : ∀ (d : Nat) (av : AV) (l' : List (Nat × AV)) (q : List Prop) (cl : List (Nat × List AV × AV)), o.dst = some d → entsH C.P ops fr0 L orcs cs (i + 1) l (acc ++ [(d, av)]) = some (l', q, cl) → AllP q → AllC C.P cl →
        (Drawn C ops i d av (pick acc (edgesOf o) ++ fr0 i) L ∧ (∀ g b x, av = .mb g b x → ∃ j, o.guard = some (j, b) ∧ guardSlot ops j = some g)) → 
        l'.length = i + (o :: l).length ∧ (∀ k, k < i → l'[k]? = acc[k]?) ∧ ∀ k o', (o :: l)[k]? = some o' → ∃ d av, o'.dst = some d ∧ l'[i + k]? = some (d, av) ∧ Drawn C ops (i + k) d av (pick (l'.take (i + k)) (edgesOf o') ++ fr0 (i + k)) L ∧
          (∀ g b x, av = .mb g b x → ∃ j, o'.guard = some (j, b) ∧ guardSlot ops j = some g) := by
      intro d av l' q cl hd he hq hcl' hdr
      obtain ⟨h1, h2, h3⟩ := entsH_spec l (i + 1) (acc ++ [(d, av)]) l' q cl (by simp [hl]) he hq hcl' (fun k o' hk => by
        have := hops (k + 1) o' (by simpa using hk)
        rwa [show i + (k + 1) = i + 1 + k by omega] at this)
      have hacc : l'.take i = acc := by
        apply List.ext_getElem?
        intro k
        rw [List.getElem?_take]
        split
        · rename_i hk
          rw [h2 k (by omega), List.getElem?_append_left (by omega)]
        · rw [List.getElem?_eq_none (by omega)]
      refine ⟨by rw [h1]; simp; omega, fun k hk => ?_, fun k o' hk => ?_⟩
      · rw [h2 k (by omega), List.getElem?_append_left (by omega)]
      · cases k with
        | zero =>
          simp only [List.getElem?_cons_zero, Option.some.injEq] at hk
          subst hk
          refine ⟨d, av, hd, ?_, ?_, hdr.2⟩
          · rw [Nat.add_zero, h2 i (by omega), List.getElem?_append_right (by omega)]; simp [hl]
          · rw [Nat.add_zero, hacc]; exact hdr.1
        | succ k =>
          obtain ⟨d', av', a1, a2, a3, a4⟩ := h3 k o' (by simpa using hk)
          have e : i + 1 + k = i + (k + 1) := by omega
          rw [e] at a2 a3
          exact ⟨d', av', a1, a2, a3, a4⟩
    have hoi : ops[i]? = some o := by simpa using hops 0 o rfl
    simp only [entsH] at h
    split at h
    · rename_i d hd
      split at h
      · rename_i us R hcs
        split at h
        · rename_i f as q hcd
          split at h
          · rename_i l' obs' calls' he
            simp only [Option.some.injEq, Prod.mk.injEq] at h
            obtain ⟨rfl, rfl, rfl⟩ := h
            obtain ⟨hq1, hq2⟩ := AllP.cons' ho
            obtain ⟨⟨hfn, hF, hR⟩, hcl2⟩ := hcl
            exact fin d R _ _ _ hd he hq2 hcl2 ⟨cDraw_drawn hoi hd hcd hq1 hfn hF hR, fun g b x e => by subst e; simp [AV.data] at hR⟩
          · simp at h
        · simp at h
      · split at h
        · rename_i av p hk
          split at h
          · rename_i l' obs' calls' he
            simp only [Option.some.injEq, Prod.mk.injEq] at h
            obtain ⟨rfl, rfl, rfl⟩ := h
            obtain ⟨hq1, hq2⟩ := ho.append
            exact fin d av _ _ _ hd he hq2 hcl (kDraw_drawn hoi hd hk hq1)
          · simp at h
        · simp at h
    · simp at h

theorem W_drawH2 {B : Code} {p : List Nat} {Q : Post} {fr' : Fr} {L' : LL} (m : Nat) (orcs : List (Nat × Orc)) (cs : List (Nat × List (Option Ty) × AV)) (kF kL : List Nat) {out : List (Nat × AV)} {obs obs2 : List Prop} {calls : List (Nat × List AV × AV)} (hdr : isDraw (nav B p) = true)
    (hm : C.P.follows .mixedOrders = true) (hok : (drawOk (opsOf (nav B p)) m && dstOk C.n (opsOf (nav B p)) && once fr) = true)
    (he : entsH C.P (opsOf (nav B p)) (fun i => oldFr (opsOf (nav B p)) m fr i ++ baseFr (opsOf (nav B p)) m fr) L orcs cs 0 ((opsOf (nav B p)).toList.take m) [] = some (out, obs, calls)) (ho : AllP obs) (hc : AllC C.P calls)
    (htail : (match run C.P (opsOf (nav B p)) orcs m ((opsOf (nav B p)).toList.drop m) (out ++ baseFr (opsOf (nav B p)) m fr) L with | some (f, l, ob) => (restr kF kL f l).map fun r => (r.1, r.2, ob) | none => none) = some (fr', L', obs2)) (ho2 : AllP obs2)
    (hn : Q .normal fr' L') : W C (nav B p) Q fr L := by
  obtain ⟨h1, _, h3⟩ := entsH_spec _ 0 [] out obs calls rfl he ho hc (fun k o hk => by
    rw [Nat.zero_add]
    have : k < m := by
      have := (List.getElem?_eq_some_iff.1 hk).1
      simp at this; omega
    rw [List.getElem?_take_of_lt this] at hk
    simpa using hk)
  have hmle : m ≤ (opsOf (nav B p)).size := by
    simp only [Bool.and_eq_true] at hok
    have := hok.1.1
    unfold drawOk at this
    simp only [Bool.and_eq_true, decide_eq_true_eq] at this
    exact this.1.1
  refine W_drawH m orcs kF kL hdr hm hok (by rw [h1]; simp; omega) (fun i o hi hoi => ?_) htail ho2 hn
  have := h3 i o (by rw [List.getElem?_take_of_lt hi]; simpa using hoi)
  simpa using this
end
end Go.Sl

/- Go's copy: into a slice of one's own, from data or from a part of the same slice. -/
namespace Go.Sl
open Go

def eCopy (P : Program) (L : LL) (t : TypeId) (x y : Option AV) : Option (Nat × LObj × Int × Prop) :=
  match P.underlying t, x, y with
  | some (.slice e), some (.one (.slc s)), some (.one (.dat (.slice v) ys)) =>
    match get L s with
    | some (.seq u xs) => if h : v = u then if sizeIs P e 1 && u.size == 1 then some (s, .seq u (over xs 0 (h ▸ ys)), List.length ys, List.length ys ≤ List.length xs) else none else none
    | _ => none
  | some (.slice e), some (.one (.sub s z a b)), some (.one (.sub s' z' c d)) =>
    if s' = s ∧ z = 1 ∧ z' = 1 then
      match get L s with
      | some (.seq u xs) => if sizeIs P e 1 && u.size == 1 then some (s, .seq u (over xs a.toNat (((xs.drop c.toNat).take (d.toNat - c.toNat)).take (b.toNat - a.toNat))), min (d - c) (b - a), True) else none
      | _ => none
    else none
  | _, _, _ => none

section
variable {P : Program} {h : Heap} {ρ : Nat → Value} {L : LL} {w : World} {tm : Array Value}

theorem run_copy0 {t e : TypeId} (hu : P.underlying t = some (.slice e)) (hz : (P.info? e).map (·.size) = some 1) {ts : Array TypeId} (hts : ts[0]? = some t) (ty : TypeId) {db sb : Option Addr} {dl dc sl sc : Nat} (hn : Nat.min sl dl = 0) :
    (Builtin.copy_ ts ty #[.slice db dl dc, .slice sb sl sc]).run P w = .ok (.int .i64 0) w := by
  have hz' := run_sizeOf' (w := w) hz
  unfold Builtin.copy_
  simp only [hts]
  simp only [Sem.run_bind, run_underlying' hu, Result.andThen_ok, Builtin.lenOf, Sem.run_pure, hn, hz', List.getElem?_toArray, List.getElem?_cons_zero, List.getElem?_cons_succ]
  cases sb <;> cases db <;> simp [Builtin.firstCells, loadCells, loadCellsFrom, storeCells, goInt, hz']

theorem run_copyN {t e el : TypeId} (hu : P.underlying t = some (.slice e)) (hz : (P.info? e).map (·.size) = some 1) {ts : Array TypeId} (hts : ts[0]? = some t) (ty : TypeId) {b o : Nat} {src : Value} {sb : Option Addr} {dl dc sl sc : Nat} (hs : src = .slice sb sl sc)
    {news : List Value} {cur : Array Value} (hf : (Builtin.firstCells 1 (Nat.min sl dl) src).run P w = .ok news.toArray w) (hb : w.heap[b]? = some (.cells cur el (0, 0))) (hfit : o + news.length ≤ cur.size) (h1 : ∀ v ∈ news, v.oneCell' = true) :
    (Builtin.copy_ ts ty #[.slice (some ⟨b, o, none⟩) dl dc, src]).run P w = .ok (.int .i64 (Nat.min sl dl)) (w.setRow b (over cur.toList o news).toArray) := by
  have hz' := run_sizeOf' (w := w) hz
  have hst := run_storeCells_at P b o el news 0 cur w hb (by simpa using hfit) h1
  simp only [Nat.add_zero] at hst
  subst hs
  unfold Builtin.copy_
  simp only [hts]
  simp only [Sem.run_bind, run_underlying' hu, Result.andThen_ok, Builtin.lenOf, Sem.run_pure, hz', List.getElem?_toArray, List.getElem?_cons_zero, List.getElem?_cons_succ, hf]
  simp [hst, over, goInt]

/-- elements of one cell each -/
theorem rep1 {u : Ty} (hu : u.size = 1) {xs : List u.den} {cs : List Value} (hl : List.length xs ≤ cs.length) :
    (∀ (j : Nat) (x : u.den), xs[j]? = some x → rep h u x (cut cs (j * u.size) u.size)) ↔ ∀ (j : Nat) (x : u.den), xs[j]? = some x → ∃ c, cs[j]? = some c ∧ rep h u x [c] := by
  have cut1 : ∀ j c, cs[j]? = some c → cut cs j 1 = [c] := by
    intro j c hc
    obtain ⟨hj, rfl⟩ := List.getElem?_eq_some_iff.1 hc
    unfold cut
    rw [List.drop_eq_getElem_cons hj]; rfl
  constructor
  · intro hall j x hx
    have hj := (List.getElem?_eq_some_iff.1 hx).1
    refine ⟨cs[j], List.getElem?_eq_getElem (by omega), ?_⟩
    have := hall j x hx
    rw [hu, Nat.mul_one, cut1 j _ (List.getElem?_eq_getElem (by omega))] at this
    exact this
  · intro hall j x hx
    obtain ⟨c, hc, hr⟩ := hall j x hx
    rw [hu, Nat.mul_one, cut1 j c hc]
    exact hr
theorem getElem?_over {α : Type} (xs ys : List α) (o j : Nat) (h : o + ys.length ≤ xs.length) : (over xs o ys)[j]? = if j < o then xs[j]? else if j < o + ys.length then ys[j - o]? else xs[j]? := by
  unfold over
  rw [List.append_assoc, List.getElem?_append]
  have hl : (xs.take o).length = o := by simp; omega
  rw [hl]
  split
  · rename_i hj; rw [List.getElem?_take_of_lt hj]
  · rw [List.getElem?_append]
    split
    · rename_i h1 h2; rw [if_pos (by omega)]
    · rename_i h1 h2
      rw [if_neg (by omega), List.getElem?_drop]
      congr 1; omega
theorem rep1_over {u : Ty} (hu : u.size = 1) {xs ys : List u.den} {cs news : List Value} {o : Nat} (hl : List.length xs ≤ cs.length) (hn : news.length = List.length ys) (ho : o + List.length ys ≤ List.length xs)
    (hx : ∀ j x, xs[j]? = some x → rep h u x (cut cs (j * u.size) u.size)) (hy : ∀ j y, ys[j]? = some y → rep h u y (cut news (j * u.size) u.size)) :
    ∀ j x, (over xs o ys)[j]? = some x → rep h u x (cut (over cs o news) (j * u.size) u.size) := by
  have lx : List.length (over xs o ys) = List.length xs := over_len xs o ys ho
  have lc : List.length (over cs o news) = List.length cs := over_len cs o news (by rw [hn]; omega)
  rw [rep1 hu (by rw [lx, lc]; exact hl)]
  rw [rep1 hu hl] at hx
  rw [rep1 hu (by omega)] at hy
  intro j x hj
  rw [getElem?_over _ _ _ _ ho] at hj
  rw [getElem?_over _ _ _ _ (by rw [hn]; omega), hn]
  split
  · rename_i h1; rw [if_pos h1] at hj; exact hx j x hj
  · rename_i h1
    rw [if_neg h1] at hj
    split
    · rename_i h2; rw [if_pos h2] at hj; exact hy _ x hj
    · rename_i h2; rw [if_neg h2] at hj; exact hx j x hj

theorem put_same {C : Ctx} {fr : Fr} {a : Act} (hr : RelH C h ρ fr L a w) {s : Nat} {o : LObj} (hg : get L s = some o) : RelH C h ρ fr (put L s o) a w :=
  hr.less fun t x ht => by
    rw [get_put] at ht
    split at ht
    · rename_i e; subst e; rw [hg]; exact ht
    · exact ht

theorem eCopy_sound {C : Ctx} {fr : Fr} {a : Act} (hr : RelH C h ρ fr L a w) {t : TypeId} {ts : Array TypeId} (hts : ts[0]? = some t) (ty : TypeId) {x y : Option AV} {u v : Value} {s : Nat} {o' : LObj} {r : Int} {ob : Prop}
    (hx : Good h ρ tm x u) (hy : Good h ρ tm y v) (hs : eCopy P L t x y = some (s, o', r, ob)) (ho : ob) :
    ∃ w', (Builtin.copy_ ts ty #[u, v]).run P w = .ok (.int .i64 r) w' ∧ RelH C h ρ fr (put L s o') a w' := by
  unfold eCopy at hs
  split at hs
  · rename_i e s1 vv ys hu
    split at hs
    · rename_i uu xs hg
      split at hs
      · rename_i hvu
        subst hvu
        split at hs
        · rename_i hc
          simp only [Bool.and_eq_true, beq_iff_eq] at hc
          obtain ⟨hz, hu1⟩ := hc
          have hz := sizeIs_spec hz
          simp only [Option.some.injEq, Prod.mk.injEq] at hs
          obtain ⟨rfl, rfl, rfl, rfl⟩ := hs
          have hle : List.length ys ≤ List.length xs := by exact_mod_cast ho
          obtain ⟨sb, sc, news, rfl, hnl, hn1, hnr, hnf⟩ := src_spec (P := P) (L := L) (own := C.own) hr.heap (fun s x hg => hr.objs s x hg) hy (show srcOf L (some (.one (.dat (.slice vv) ys))) = some ⟨vv, ys⟩ from rfl)
          obtain rfl : u = ρ s1 := (hx _ rfl).1.1.trans (seq_hdr (hr.objs _ _ hg)).1
          rw [hu1, Nat.mul_one] at hnl
          by_cases hne : xs = []
          · subst hne
            have hy0 : ys = [] := List.eq_nil_of_length_eq_zero (by simpa using hle)
            subst hy0
            rcases hr.objs _ _ hg with ⟨hrr, _⟩ | ⟨b, cap, cur, el, hrr, _⟩
            · exact ⟨w, by rw [hrr]; exact run_copy0 hu hz hts ty rfl, put_same hr hg⟩
            · exact ⟨w, by rw [hrr]; exact run_copy0 hu hz hts ty rfl, put_same hr hg⟩
          · rcases hr.objs _ _ hg with ⟨_, h0⟩ | ⟨b, cap, cur, el, hrr, h1, h2, h3, h4, h5, h6, h7⟩
            · exact (hne h0).elim
            · obtain ⟨cur', e', hc', hl', hall', hfin⟩ := elem_cells hr (.inl hg) (.inr ⟨_, _, by rw [hrr]; rfl⟩) hne
              rw [h3] at hc'
              simp only [Option.some.injEq, Obj.cells.injEq] at hc'
              obtain ⟨rfl, rfl, _⟩ := hc'
              rw [hu1, Nat.mul_one] at hl'
              have hmin : Nat.min (List.length ys) (List.length xs) = List.length ys := Nat.min_eq_left hle
              refine ⟨_, ?_, (hfin (over xs 0 ys) (over cur.toList 0 news) (over_len _ _ _ (by omega)) (over_len _ _ _ (by omega)) ?_).1 hg⟩
              · rw [hrr]
                have := run_copyN (P := P) (w := w) (dl := List.length xs) (dc := cap) hu hz hts ty (sb := sb) (sl := List.length ys) (sc := sc) rfl (news := news) (cur := cur) (o := 0) (by rw [hmin]; have := hnf w rfl; rwa [hu1] at this) h3 (by simp at hl' ⊢; omega) hn1
                rw [hmin] at this; exact this
              · exact rep1_over hu1 hl' hnl (by omega) hall' hnr
        · simp at hs
      · simp at hs
    · simp at hs
  · rename_i e s1 z ia ib s2 z2 ic id_ hu
    split at hs
    · rename_i hcond
      obtain ⟨rfl, rfl, rfl⟩ := hcond
      split at hs
      · rename_i uu xs hg
        split at hs
        · rename_i hc
          simp only [Bool.and_eq_true, beq_iff_eq] at hc
          obtain ⟨hz, hu1⟩ := hc
          have hz := sizeIs_spec hz
          simp only [Option.some.injEq, Prod.mk.injEq] at hs
          obtain ⟨rfl, rfl, rfl, rfl⟩ := hs
          obtain ⟨bs, n, cap, hrs, a0, a1, a2, a3, rfl⟩ := (hx _ rfl).1
          obtain ⟨bs2, n2, cap2, hrs2, c0, c1, c2, c3, rfl⟩ := (hy _ rfl).1
          rw [hrs] at hrs2
          simp only [Value.slice.injEq] at hrs2
          obtain ⟨rfl, rfl, rfl⟩ := hrs2
          rw [(seq_hdr (hr.objs _ _ hg)).1] at hrs
          have key : (∃ k : Nat, (min (id_ - ic) (ib - ia) : Int) = k ∧ Nat.min (id_.toNat - ic.toNat) (ib.toNat - ia.toNat) = k) := ⟨Nat.min (id_.toNat - ic.toNat) (ib.toNat - ia.toNat), by show (min (id_ - ic) (ib - ia) : Int) = (min (id_.toNat - ic.toNat) (ib.toNat - ia.toNat) : Nat); omega, rfl⟩
          obtain ⟨k, hk1, hk2⟩ := key
          rw [hk1]
          have hn : n = List.length xs := by
            rcases hr.objs _ _ hg with ⟨hrr, hx0⟩ | ⟨b, cap', cur, el, hrr, _⟩
            · rw [hrr] at hrs; simp only [Value.slice.injEq] at hrs; rw [hx0]; exact hrs.2.1.symm
            · rw [hrr] at hrs; simp only [Value.slice.injEq] at hrs; exact hrs.2.1.symm
          subst hn
          obtain ⟨ys, hys⟩ : ∃ ys, ((xs.drop ic.toNat).take (id_.toNat - ic.toNat)).take (ib.toNat - ia.toNat) = ys := ⟨_, rfl⟩
          have hyl : List.length ys = k := by rw [← hys]; simp only [List.length_take, List.length_drop]; rw [← hk2]; show _ = min (id_.toNat - ic.toNat) (ib.toNat - ia.toNat); omega
          have hyg : ∀ j y, ys[j]? = some y → xs[ic.toNat + j]? = some y := by
            intro j y hj
            rw [← hys, List.getElem?_take] at hj
            split at hj
            · rw [List.getElem?_take] at hj
              split at hj
              · rwa [List.getElem?_drop] at hj
              · cases hj
            · cases hj
          rw [hys]
          by_cases hk0 : k = 0
          · subst hk0
            have hy0 : ys = [] := List.eq_nil_of_length_eq_zero hyl
            subst hy0
            refine ⟨w, run_copy0 hu hz hts ty hk2, ?_⟩
            have : over xs ia.toNat [] = xs := by simp [over]
            rw [this]; exact put_same hr hg
          · have hne : xs ≠ [] := by rintro rfl; simp at a2 c2; omega
            rcases hr.objs _ _ hg with ⟨_, h0⟩ | ⟨b, cap', cur, el, hrr, h1, h2, h3, h4, h5, h6, h7⟩
            · exact (hne h0).elim
            · rw [hrr] at hrs
              simp only [Value.slice.injEq] at hrs
              obtain ⟨rfl, _, rfl⟩ := hrs
              obtain ⟨cur', e', hc', hl', hall', hfin⟩ := elem_cells hr (.inl hg) (.inr ⟨_, _, by rw [hrr]; rfl⟩) hne
              rw [h3] at hc'
              simp only [Option.some.injEq, Obj.cells.injEq] at hc'
              obtain ⟨rfl, rfl, _⟩ := hc'
              have hl2 := hl'
              rw [hu1, Nat.mul_one] at hl2
              have hcs : cur.toList.length = cur.size := by simp
              obtain ⟨news, hnews⟩ : ∃ news, cut cur.toList ic.toNat k = news := ⟨_, rfl⟩
              have hnl : news.length = k := by rw [← hnews]; exact cut_len _ _ _ (by omega)
              have hng : ∀ j, j < k → news[j]? = cur.toList[ic.toNat + j]? := by
                intro j hj
                rw [← hnews]; unfold cut
                rw [List.getElem?_take_of_lt hj, List.getElem?_drop]
              have hall1 := (rep1 hu1 hl2).1 hall'
              have hyr : ∀ j y, ys[j]? = some y → rep h uu y (cut news (j * uu.size) uu.size) := by
                rw [rep1 hu1 (by omega)]
                intro j y hj
                have hjk : j < k := by have := (List.getElem?_eq_some_iff.1 hj).1; omega
                rw [hng j hjk]
                exact hall1 _ _ (hyg j y hj)
              have hn1 : ∀ v ∈ news, v.oneCell' = true := by
                have := rep_oneCell (h := h) (.arr (List.length ys) uu) ys news ⟨rfl, by rw [hu1, Nat.mul_one, hnl, hyl], hyr⟩
                exact this
              have hca : ¬ cap' = ia.toNat := by omega
              have hcc : ¬ cap' = ic.toNat := by omega
              refine ⟨_, ?_, (hfin (over xs ia.toNat ys) (over cur.toList ia.toNat news) (over_len _ _ _ (by omega)) (over_len _ _ _ (by omega)) ?_).1 hg⟩
              · have hf : (Builtin.firstCells 1 k (.slice (some ⟨b, ic.toNat, none⟩) (id_.toNat - ic.toNat) (cap' - ic.toNat))).run P w = .ok news.toArray w := by
                  have := run_firstCells_some (P := P) w 1 k ⟨b, ic.toNat, none⟩ (id_.toNat - ic.toNat) (cap' - ic.toNat) news (by omega) ?_
                  · exact this
                  · intro j q hq
                    have hjk : j < k := by have := (List.getElem?_eq_some_iff.1 hq).1; omega
                    rw [hng j hjk] at hq
                    rw [addr_add]
                    simpa [World.cell?, h3] using hq
                have := run_copyN (P := P) (w := w) (b := b) (o := ia.toNat) (dl := ib.toNat - ia.toNat) (dc := cap' - ia.toNat) hu hz hts ty (sb := some ⟨b, ic.toNat, none⟩) (sl := id_.toNat - ic.toNat) (sc := cap' - ic.toNat) rfl (news := news) (cur := cur) (by rw [hk2]; exact hf) h3 (by omega) hn1
                rw [hk2] at this
                rw [if_neg hca, if_neg hcc]
                simp only [Option.map_some, addr_add, Nat.zero_add, Nat.mul_one]
                exact this
              · exact rep1_over hu1 hl2 (by omega) (by omega) hall' hyr
        · simp at hs
      · simp at hs
    · simp at hs
  · simp at hs
end

section
variable {C : Ctx} {fr : Fr} {L : LL} {Q : Post}
def copyOp (P : Program) (fr : Fr) (L : LL) (o : Oper) : Option (Nat × LObj × Int × Prop) :=
  match o.guard, o.op with
  | none, .call c => match c.callee, c.args.toList, c.argTypes.toList with
    | .builtin .copy, [x, y], t :: _ => eCopy P L t (evS fr none x) (evS fr none y)
    | _, _, _ => none
  | _, _ => none
theorem copyOp_sound {o : Oper} {h : Heap} {ρ : Nat → Value} {a : Act} {w : World} {s : Nat} {o' : LObj} {r : Int} {p : Prop} (hs : copyOp C.P fr L o = some (s, o', r, p)) (hp : p) (hr : RelH C h ρ fr L a w) :
    o.guard = none ∧ ∃ w', (execOp a.eval o).run C.P w = .ok (.value (.int .i64 r)) w' ∧ RelH C h ρ fr (put L s o') a w' := by
  unfold copyOp at hs
  split at hs
  · rename_i c hgd hop
    refine ⟨hgd, ?_⟩
    split at hs
    · rename_i x y t ts hcal hargs hts
      have ha' : c.args = #[x, y] := by rw [← Array.toList_inj]; simpa using hargs
      have ht' : c.argTypes[0]? = some t := by rw [← Array.getElem?_toList, hts]; rfl
      have hev : ∀ x, Good h ρ a.tmps (evS fr none x) (a.eval x) := fun x y hy => evS_sound hr.fr (fun _ _ e => by cases e) hy
      obtain ⟨w', hrun, hrel⟩ := eCopy_sound hr ht' o.type (hev x) (hev y) hs hp
      refine ⟨w', ?_, hrel⟩
      simp only [execOp, hop, resolve, hcal, ha']
      simp [invoke, builtin, hrun]
    · simp at hs
  · simp at hs
def copyAt (P : Program) (n : Nat) (ops : Array Oper) (i : Nat) (fr : Fr) (L : LL) : Option (Nat × Nat × LObj × Int × Prop) :=
  match ops[i]? with
  | some o => match o.dst with
    | some d => if d < n then (copyOp P fr L o).map fun r => (d, r) else none
    | none => none
  | none => none
theorem copyAt_spec {ops : Array Oper} {i d s : Nat} {o' : LObj} {r : Int} {p : Prop} {n : Nat} {P : Program} (h : copyAt P n ops i fr L = some (d, s, o', r, p)) : ∃ o, ops[i]? = some o ∧ o.dst = some d ∧ d < n ∧ copyOp P fr L o = some (s, o', r, p) := by
  unfold copyAt at h
  split at h
  · rename_i o ho
    split at h
    · rename_i d' hd
      split at h
      · rename_i hdn
        obtain ⟨⟨r1, r2, r3, r4⟩, hr, he⟩ := Option.map_eq_some_iff.1 h
        simp only [Prod.mk.injEq] at he
        obtain ⟨rfl, rfl, rfl, rfl, rfl⟩ := he
        exact ⟨o, ho, hd, hdn, hr⟩
      · cases h
    · cases h
  · cases h
theorem WO_copy {ops : Array Oper} {i j d s : Nat} {o' : LObj} {r : Int} {p : Prop} (hj : j = i + 1) (h : copyAt C.P C.n ops i fr L = some (d, s, o', r, p)) (hp : p)
    (hn : WO C ops j Q (putF fr d (.one (.dat (.int .i64) r))) (put L s o')) : WO C ops i Q fr L := by
  obtain ⟨o, ho, hd, hdn, hc⟩ := copyAt_spec h
  intro a w hr0
  have hg : o.guard = none := by obtain ⟨h0, ρ, hr⟩ := hr0; exact (copyOp_sound hc hp hr).1
  refine WO_step hj ho hg (fun h0 ρ a w hr => ?_) hn a w hr0
  obtain ⟨_, w', hrun, hrel⟩ := copyOp_sound hc hp hr
  refine ⟨_, w', hrun, ?_⟩
  rw [hd]
  exact ⟨h0, ρ, hrel.putSlot d _ _ hdn vrel_int⟩

theorem eCopy_mono {P : Program} {L L' : LL} (hL : ∀ s o, get L s = some o → get L' s = some o) {t : TypeId} {x y : Option AV} {r : Nat × LObj × Int × Prop} (h : eCopy P L t x y = some r) : eCopy P L' t x y = some r := by
  unfold eCopy at h ⊢
  split at h
  · rename_i e s v ys hu
    cases hg : get L s with
    | none => rw [hg] at h; cases h
    | some o => rw [hg] at h; rw [hL _ _ hg]; exact h
  · rename_i e s z ia ib s2 z2 ic id_ hu
    split at h
    · rename_i hc
      simp only [if_pos hc]
      cases hg : get L s with
      | none => rw [hg] at h; cases h
      | some o => rw [hg] at h; rw [hL _ _ hg]; exact h
    · cases h
  · cases h
theorem copyOp_mono {P : Program} {F frI : Fr} {L L' : LL} (hF : ∀ p ∈ frI, get F p.1 = some p.2) (hL : ∀ s o, get L s = some o → get L' s = some o) {o : Oper} {r : Nat × LObj × Int × Prop} (h : copyOp P frI L o = some r) : copyOp P F L' o = some r := by
  unfold copyOp at h ⊢
  split at h
  · split at h
    · rename_i x y t ts _ _ _
      have hx : ∃ vx, evS frI none x = some vx := by
        cases hx : evS frI none x with
        | none => rw [hx] at h; unfold eCopy at h; split at h <;> simp_all
        | some v => exact ⟨v, rfl⟩
      have hy : ∃ vy, evS frI none y = some vy := by
        cases hy : evS frI none y with
        | none => rw [hy] at h; unfold eCopy at h; split at h <;> simp_all
        | some v => exact ⟨v, rfl⟩
      obtain ⟨vx, hx⟩ := hx
      obtain ⟨vy, hy⟩ := hy
      rw [hx, hy] at h
      rw [evS_cover hF hx, evS_cover hF hy]
      exact eCopy_mono hL h
    · cases h
  · cases h
theorem mapv_id {α : Type} : ∀ F : List (Nat × α), mapv (fun a => a) F = F
  | [] => rfl
  | (k, v) :: F => by rw [mapv, mapv_id F]
theorem copy_step {ops : Array Oper} {i d s : Nat} {o' : LObj} {r : Int} {p : Prop} {frI : Fr} (h : copyAt C.P C.n ops i frI L = some (d, s, o', r, p)) (hp : p) : CStep C ops i d [] [(s, o')] (.one (.dat (.int .i64) r)) frI L := by
  intro F Lp a w hF hLp ⟨h0, ρ, hr⟩ Q K hK
  obtain ⟨o, ho, hd, hdn, hc⟩ := copyAt_spec h
  obtain ⟨hg, w', hrun, hrel⟩ := copyOp_sound (copyOp_mono hF hLp hc) hp hr
  have hw : Region.wanted o (yielded ops a.tmps) = true := by simp [Region.wanted, hg]
  have hR : Rel C (putF F d (.one (.dat (.int .i64) r))) (put Lp s o') (a.put o.dst (.int .i64 r)) w' := by rw [hd]; exact ⟨h0, ρ, hrel.putSlot d _ _ hdn vrel_int⟩
  have := does_of_exec (C := C) (ops := ops) hw (.inl ⟨_, w', hrun, hR⟩) Q K (fun a' w' hr' => hK a' w' (by
      obtain ⟨h1, ρ1, hr1⟩ := hr'
      have e : killFs [] F = F := by
        unfold killFs
        show mapv (fun a => a) F = F
        clear hF hr hrel hR hr1 hc h
        exact mapv_id F
      rw [e]
      refine ⟨h1, ρ1, hr1.less fun s' x hs => ?_⟩
      rw [get_nextL'] at hs
      rw [get_put]
      by_cases hss : s = s'
      · subst hss; simp [get] at hs ⊢; exact hs
      · simp only [get, if_neg hss] at hs ⊢
        simpa using hs))
  rw [if_pos hw] at this
  unfold wpOp
  rw [ho]
  simp only
  rw [if_pos hw]
  exact .inl this
theorem chCopy {ops : Array Oper} {ch r : Chain} {out : List (Nat × AV)} {base : Fr} {q i d s : Nat} {o' : LObj} {k : Int} {p : Prop} (h : copyAt C.P C.n ops i (frC ch out base (match ops[i]? with | some o => edgesOf o | none => []) q) (ch.at q L) = some (d, s, o', k, p)) (hp : p)
    (ho : out[i]? = some (d, .one (.dat (.int .i64) k))) (t : AllCh C ops ch out base L (q + 1) r) : AllCh C ops ch out base L q ((i, [], [(s, o')]) :: r) := by
  obtain ⟨o, h1, h2, _⟩ := copyAt_spec h
  have := copy_step h hp
  rw [h1] at this
  exact ⟨⟨o, d, _, h1, h2, ho, this⟩, t⟩
end
end Go.Sl

/- A slice compared with nil. -/
namespace Go.Sl
open Go
section
variable {P : Program} {w : World}
theorem run_equal_nil {t e : TypeId} (hu : P.underlying t = some (.slice e)) (a : Option Addr) (n c : Nat) : (Op.equal t (.slice a n c) (.slice none 0 0)).run P w = .ok a.isNone w := by
  show (Op.equalIn (9999 + 1) t (.slice a n c) (.slice none 0 0)).run P w = _
  rw [Op.equalIn]
  cases a <;> simp [run_underlying' hu]
theorem run_eql_nil {t e : TypeId} (hu : P.underlying t = some (.slice e)) (a : Option Addr) (n c : Nat) : (binOp .eql t (.slice a n c) (.slice none 0 0)).run P w = .ok (.bool a.isNone) w := by
  show (do pure (Value.bool (← Op.equal t (.slice a n c) (.slice none 0 0))) : Sem Value).run P w = _
  rw [Sem.run_bind, run_equal_nil hu]; rfl
theorem run_neq_nil {t e : TypeId} (hu : P.underlying t = some (.slice e)) (a : Option Addr) (n c : Nat) : (binOp .neq t (.slice a n c) (.slice none 0 0)).run P w = .ok (.bool (!a.isNone)) w := by
  show (do pure (Value.bool (!(← Op.equal t (.slice a n c) (.slice none 0 0)))) : Sem Value).run P w = _
  rw [Sem.run_bind, run_equal_nil hu]; rfl
end

/-- a slice's data compared with nil: where, and which -/
def nilcmpAt (P : Program) (ops : Array Oper) (i : Nat) (fr : Fr) : Option (Nat × ((t : Ty) × List t.den)) :=
  match ops[i]? with
  | some o => match o.guard, o.dst, o.op with
    | none, some d, .binOp .eql t x (.const (.slice none 0 0)) _ => match P.underlying t, evS fr none x with
      | some (.slice _), some (.one (.dat (.slice u) xs)) => some (d, ⟨u, xs⟩)
      | _, _ => none
    | _, _, _ => none
  | none => none

section
variable {C : Ctx} {fr : Fr} {L : LL} {Q : Post}
theorem WO_nilcmp {ops : Array Oper} {i j d : Nat} {u : Ty} {xs : List u.den} (hj : j = i + 1) (hd : decide (d < C.n) = true) (ha : nilcmpAt C.P ops i fr = some (d, ⟨u, xs⟩))
    (hn : ∀ z : Bool, (z = true → xs = []) → WO C ops j Q (putF fr d (aB z)) L) : WO C ops i Q fr L := by
  intro a w ⟨h, ρ, hr⟩
  unfold nilcmpAt at ha
  split at ha
  · rename_i o ho
    split at ha
    · rename_i d' t x yt hg hdst hop
      split at ha
      · rename_i e u' xs' hu hx
        simp only [Option.some.injEq, Prod.mk.injEq, Sigma.mk.injEq] at ha
        obtain ⟨rfl, rfl, ha⟩ := ha
        obtain rfl := eq_of_heq ha
        have hlen : i < ops.toList.length := by
          have := (Array.getElem?_eq_some_iff.1 ho).1; simpa using this
        have hdrop : ops.toList.drop i = o :: ops.toList.drop j := by
          rw [hj, ← List.getElem_cons_drop hlen]
          congr 1
          have := (Array.getElem?_eq_some_iff.1 ho).2
          simpa using this
        have hv := (evS_sound hr.fr (gd := none) (fun _ _ e => by cases e) hx).1
        obtain ⟨ad, cap, hval, hl, hc, hrest⟩ := sl_form (repV_slice.1 hv)
        rw [hdrop]
        refine wpList_step fun K hK => ?_
        rw [if_pos (by simp [Region.wanted, hg])]
        unfold Oper.wp
        have hrun : (execOp a.eval o).run C.P w = .ok (.value (.bool ad.isNone)) w := by
          have hcst : a.eval (.const (.slice none 0 0)) = .slice none 0 0 := rfl
          have hg2 : ∀ p q n, (eqGuard .eql t p q (.slice ad n cap) (.slice none 0 0)).run C.P w = .ok () w := by
            intro p q n
            unfold eqGuard
            simp
          simp only [execOp, hop, Sem.run_bind, hcst, hval, hg2, Result.andThen_ok, run_eql_nil hu]
          rfl
        rw [hrun, Oper.upon_value, hdst]
        refine hK _ _ (hn ad.isNone (fun hz => ?_) _ _ ⟨h, ρ, hr.putSlot _ _ _ (of_decide_eq_true hd) ((repV_bool (h := h)).2 rfl)⟩)
        cases ad with
        | some _ => cases hz
        | none =>
          rcases hrest with he | ⟨b, off, blk, he, _⟩
          · exact he
          · cases he
      · simp at ha
    · simp at ha
  · simp at ha
end
end Go.Sl

/- A loop whose first round is another; a slice of one's own, not empty, compared with nil. -/
namespace Go.Sl
open Go

/-- a loop whose first round begins elsewhere -/
def iterP {X0 X Y : Type} (f0 : X0 → Option (Flow X Y)) (f : X → Option (Flow X Y)) (n : Nat) (x : X0) : Option Y :=
  match f0 x with
  | some (.next x') => iter f n x'
  | some (.done y) => some y
  | none => none
def mapFlow {X X' Y : Type} (g : X → X') : Flow X Y → Flow X' Y
  | .next x => .next (g x)
  | .done y => .done y
def sumF {X0 X Y : Type} (f0 : X0 → Option (Flow X Y)) (f : X → Option (Flow X Y)) : X0 ⊕ X → Option (Flow (X0 ⊕ X) Y)
  | .inl x => (f0 x).map (mapFlow .inr)
  | .inr x => (f x).map (mapFlow .inr)
theorem sumF_iter {X0 X Y : Type} (f0 : X0 → Option (Flow X Y)) (f : X → Option (Flow X Y)) : ∀ (n : Nat) (x : X), iter (sumF f0 f) n (.inr x) = iter f n x
  | 0, _ => rfl
  | n + 1, x => by
    simp only [iter, sumF]
    cases f x with
    | none => rfl
    | some s => cases s with
      | next x' => exact sumF_iter f0 f n x'
      | done y => rfl
section
variable {C : Ctx} {B : Code} {p : List Nat} {Q : Post} {fr fr' : Fr} {L L' : LL}
theorem W_loopP {X0 X Y : Type} {f0 : X0 → Option (Flow X Y)} {f : X → Option (Flow X Y)} {S0 : X0 → Fr × LL} {S : X → Fr × LL} {J : Y → Post} (hl : isLoop (nav B p) = true)
    (hb0 : ∀ x s, f0 x = some s → W C (nav B (0 :: p)) (roundQ S J s) (S0 x).1 (S0 x).2)
    (hb : ∀ x s, f x = some s → W C (nav B (0 :: p)) (roundQ S J s) (S x).1 (S x).2)
    (n : Nat) (x : X0) (y : Y) (h : iterP f0 f n x = some y) : W C (nav B p) (J y) (S0 x).1 (S0 x).2 := by
  have conv : ∀ (s : Flow X Y) (e : Exit) (fr : Fr) (L : LL), roundQ S J s e fr L → roundQ (fun z : X0 ⊕ X => match z with | .inl x => S0 x | .inr x => S x) J (mapFlow .inr s) e fr L := by
    intro s e fr L hq
    cases s <;> exact hq
  have := W_loop (f := sumF f0 f) (S := fun z : X0 ⊕ X => match z with | .inl x => S0 x | .inr x => S x) (J := J) hl
    (by
      intro z s hs
      cases z with
      | inl x =>
        obtain ⟨s', h1, rfl⟩ := Option.map_eq_some_iff.1 hs
        exact W_mono (conv s') (hb0 x s' h1)
      | inr x =>
        obtain ⟨s', h1, rfl⟩ := Option.map_eq_some_iff.1 hs
        exact W_mono (conv s') (hb x s' h1)) (n + 1) (.inl x) y (by
      unfold iterP at h
      simp only [iter, sumF]
      cases hx : f0 x with
      | none => rw [hx] at h; cases h
      | some s =>
        rw [hx] at h
        cases s with
        | next x' => simp only [Option.map_some, mapFlow]; rw [sumF_iter]; exact h
        | done y' => simpa [mapFlow] using h)
  exact this

def nilOAt (P : Program) (ops : Array Oper) (i : Nat) (fr : Fr) (L : LL) : Option (Nat × ((t : Ty) × List t.den)) :=
  match ops[i]? with
  | some o => match o.guard, o.dst, o.op with
    | none, some d, .binOp .eql t x (.const (.slice none 0 0)) _ => match P.underlying t, evS fr none x with
      | some (.slice _), some (.one (.slc s)) => match get L s with
        | some (.seq u xs) => some (d, ⟨u, xs⟩)
        | _ => none
      | _, _ => none
    | _, _, _ => none
  | none => none
theorem WO_nilO {ops : Array Oper} {i j d : Nat} {u : Ty} {xs : List u.den} (hj : j = i + 1) (hd : decide (d < C.n) = true) (ha : nilOAt C.P ops i fr L = some (d, ⟨u, xs⟩)) (hne : 0 < List.length xs)
    (hn : WO C ops j Q (putF fr d (aB false)) L) : WO C ops i Q fr L := by
  unfold nilOAt at ha
  split at ha
  · rename_i o ho
    split at ha
    · rename_i d' t x yt hg hdst hop
      split at ha
      · rename_i e s hu hx
        split at ha
        · rename_i u' xs' hgs
          simp only [Option.some.injEq, Prod.mk.injEq, Sigma.mk.injEq] at ha
          obtain ⟨rfl, rfl, ha⟩ := ha
          obtain rfl := eq_of_heq ha
          refine WO_step hj ho hg (fun h ρ a w hr => ?_) hn
          have hv : a.eval x = ρ s := (evS_sound hr.fr (gd := none) (fun _ _ e => by cases e) hx).1.1.trans (seq_hdr (hr.objs _ _ hgs)).1
          rcases hr.objs _ _ hgs with ⟨_, h0⟩ | ⟨b, cap, cur, el, hrr, _⟩
          · subst h0; simp at hne
          · refine ⟨.bool false, w, ?_, ?_⟩
            · have hcst : a.eval (.const (.slice none 0 0)) = .slice none 0 0 := rfl
              have hg2 : ∀ p q, (eqGuard .eql t p q (.slice (some ⟨b, 0, none⟩) (List.length xs') cap) (.slice none 0 0)).run C.P w = .ok () w := by
                intro p q
                unfold eqGuard
                simp
              simp only [execOp, hop, Sem.run_bind, hcst, hv, hrr, hg2, Result.andThen_ok, run_eql_nil hu]
              rfl
            · rw [hdst]
              exact ⟨h, ρ, hr.putSlot _ _ _ (of_decide_eq_true hd) ((repV_bool (h := h)).2 rfl)⟩
        · simp at ha
      · simp at ha
    · simp at ha
  · simp at ha
end
end Go.Sl

/- Ranges over a function: a round's body by contract. (Under way: what is here is not yet used.) -/
namespace Go.Sl
open Go

/-- the code c of a round of the loop's record l, begun with what fr0 says of the loop's temporaries and the objects Lin: how it ends, and what objects it leaves -/
def BodyC (P : Program) (n : Nat) (c : Code) (l : Nat) (fr0 : Fr) (Lin : LL) (post : Exit → LL → Prop) : Prop :=
  ∀ (h : Heap) (ρ : Nat → Value) (w : World) (tm : Array Value), tm.size = n → HeapOk h w → (∀ s o, get Lin s = some o → ORel (fun _ => True) h ρ w (ρ s) o) → Apart ρ Lin → FrOk h ρ fr0 n tm →
    c.wpIn (FR (some l)) 0 P (fun e _ w' => ∃ h' ρ' Lout, post e Lout ∧ Out h ρ w Lin h' ρ' w' Lout) { tmps := tm, defers := [] } w

def Base.ctxR (K : Base) (P : Program) (n l : Nat) : Ctx := ⟨P, n, K.w0, K.h0, K.X, K.pin, some l, K.w0.heap.size⟩
@[reducible] def bodyQ (post : Exit → LL → Prop) : Post := fun e _ L => ∃ Lout, post e Lout ∧ keep (Lout.map (·.1)) L = some Lout

theorem bodyC_of_W {P : Program} {n l : Nat} {c : Code} {fr0 : Fr} {Lin : LL} {post : Exit → LL → Prop} (hnm : Lin.all (fun p => decide (1000 ≤ p.1)) = true)
    (hW : ∀ K : Base, W (K.ctxR P n l) c (bodyQ post) fr0 Lin) : BodyC P n c l fr0 Lin post := by
  intro h ρ w tm hsize hheap hobjs hap hfr
  let K : Base := ⟨w, h, fun b => ∃ s o, get Lin s = some o ∧ Blk (ρ s) b, fun s => if nameOk s then none else (match get Lin s with | some _ => some (ρ s) | none => none)⟩
  have hinit : RelH (K.ctxR P n l) h ρ fr0 Lin { tmps := tm, defers := [] } w := by
    refine ⟨hsize, DOk.nil, hfr, hheap, ?_, hap, Ext.refl h, fun _ e _ => e, rfl, rfl, rfl, Nat.le_refl _, fun _ _ _ => rfl, ?_, ?_, ?_, ?_⟩
    · intro s o hs
      exact ORel.own_mono (hobjs s o hs) fun b hb => .inr ⟨s, o, hs, hb⟩
    · rintro b ⟨s, o, hs, hb⟩
      exact ((hobjs s o hs).block hb).2.2
    · intro s v hv
      simp only [K, Base.ctxR] at hv
      split at hv
      · cases hv
      · split at hv
        · exact Option.some.inj hv
        · cases hv
    · intro s hs
      simp [K, Base.ctxR, hs]
    · intro s o b hs hlt _
      have : (s, o) ∈ Lin := get_mem _ _ _ hs
      have := List.all_eq_true.1 hnm _ this
      simp at this
      omega
  refine wpIn_mono (hW K _ w ⟨h, ρ, hinit⟩) ?_
  rintro e a' w' ⟨fr, L0, ⟨h', ρ', hr1⟩, Lout, hpost, hkeep⟩
  have hr : RelH (K.ctxR P n l) h' ρ' fr Lout a' w' := hr1.keepL hkeep
  refine ⟨h', ρ', Lout, hpost, hr.ext, hr.heap, hr.fresh, hr.os, hr.tape, hr.output, hr.grow, ?_, hr.objs, hr.apart, ?_, hr.low⟩
  · intro b hb hno
    exact hr.frame b hb (fun ⟨s, o, hs, hb'⟩ => hno s o hs hb')
  · rintro s hs ⟨o, ho⟩
    exact hr.pin s (ρ s) (by simp [K, Base.ctxR, hs, ho])

/-- the code that a round's way out leaves behind -/
def jumpOf : Exit → Option Code
  | .ret => some .ret
  | .exit id => some (.exit id)
  | .goto t => some (.goto t)
  | _ => none
/-- the world in which the record is busy -/
def busyW (w : World) (l : Nat) (rec : Loop) : World := w.putObj l (.loop { rec with state := .busy })
/-- how a round ends: by the body's way out -/
def roundR (P : Program) (n l : Nat) (rec : Loop) (h : Heap) (ρ : Nat → Value) (w : World) (Lin : LL) (post : Exit → LL → Prop) : Ending → World → Prop := fun e w' =>
  ∃ ex h' ρ' Lout w3, post ex Lout ∧ Out h ρ (busyW w l rec) Lin h' ρ' w3 Lout ∧
    match ex with
    | .normal => e = .returned (.bool true) ∧ w' = w3.putObj l (.loop rec)
    | ex => e = .returned (.bool false) ∧ w' = w3.putObj l (.loop { rec with state := .done, pending := jumpOf ex })

theorem round_in {P : Program} {n l : Nat} {rec : Loop} {h : Heap} {ρ : Nat → Value} {w : World} {fr0 : Fr} {Lin : LL} {post : Exit → LL → Prop} {p d id : Nat} {o : Oper} {x : SV} {v : Value}
    (hl : w.heap[l]? = some (.loop rec)) (hst : rec.state = .ready) (hpe : rec.pending = none) (htm : rec.tmps.size = n) (has : rec.assign = .region id #[o] false) (hg : o.guard = none) (hdst : o.dst = some d) (hop : o.op = .assign (.tmp p)) (hp : p < n) (hd : d < n)
    (hB : BodyC P n rec.body l (putF (putF fr0 p (.one x)) d (.one x)) Lin post) (hpost : ∀ e L, post e L → (∀ c, e ≠ .panic c) ∧ e ≠ .outgrown)
    (hheap : HeapOk h w) (hobjs : ∀ s o, get Lin s = some o → ORel (fun _ => True) h ρ w (ρ s) o) (hno : ∀ s o, get Lin s = some o → ¬ Blk (ρ s) l) (hap : Apart ρ Lin) (hfr : FrOk h ρ fr0 n rec.tmps) (hv : SRel h ρ x v) :
    RoundIn Fence.wide 0 P l rec.fn (rec.tmps.setIfInBounds p v) rec.assign rec.body w (roundR P n l rec h ρ w Lin post) := by
  refine roundIn_of_wpIn (F := Fence.wide) trivial ?_
  have hlt : l < w.heap.size := (Array.getElem?_eq_some_iff.1 hl).1
  -- the frame
  have put1 : ∀ (fr : Fr) (tm : Array Value) (q : Nat), tm.size = n → q < n → FrOk h ρ fr n tm → FrOk h ρ (putF fr q (.one x)) n (tm.setIfInBounds q v) := by
    intro fr tm q hs hq hf s av hsv
    unfold putF at hsv
    rw [get] at hsv
    split at hsv
    · rename_i e
      subst e
      obtain rfl := Option.some.inj hsv
      refine ⟨hq, ?_⟩
      have : (tm.setIfInBounds q v).getD q undef = v := by simp [Array.getD_eq_getD_getElem?, hs, hq]
      rw [this]; exact hv
    · rename_i hne
      rw [get_mapv, get_del, if_neg hne] at hsv
      obtain ⟨y, hy, rfl⟩ := Option.map_eq_some_iff.1 hsv
      obtain ⟨h1, h2⟩ := hf s y hy
      refine ⟨h1, ?_⟩
      have hg : (tm.setIfInBounds q v).getD s undef = tm.getD s undef := by simp [Array.getD_eq_getD_getElem?, Array.getElem?_setIfInBounds, hne]
      rw [hg]
      cases y with
      | one z => exact h2
      | agg zs => exact h2
      | tup zs => exact h2
      | mb g b z =>
        by_cases hgq : g = q
        · simp only [AV.unmb, if_pos hgq]
          exact (trivial : SRel h ρ .any _)
        · simp only [AV.unmb, if_neg hgq]
          intro ht
          refine h2 ?_
          rw [Array.getElem?_setIfInBounds, if_neg (fun e => hgq e.symm)] at ht
          exact ht
  rw [has]
  refine wpIn_mono (Q := fun e a w1 => e = .normal ∧ a = { tmps := (rec.tmps.setIfInBounds p v).setIfInBounds d v, defers := [] } ∧ w1 = w) (wpIn_region_list (F := FR (some l)) (list_in (by rintro ⟨_, _, h, _⟩; cases h) _ _ _ (fun o' ho' => by
      have : o' = o := by simpa using ho'
      subst this; rw [hop]; rfl) ?_)) ?_
  · refine wpList_step fun K hK => ?_
    rw [if_pos (by simp [Region.wanted, hg])]
    unfold Oper.wp
    have hev : ({ tmps := rec.tmps.setIfInBounds p v, defers := [] } : Act).eval (.tmp p) = v := by
      simp [Act.eval, htm, hp]
    have hx : (execOp ({ tmps := rec.tmps.setIfInBounds p v, defers := [] } : Act).eval o).run P w = .ok (.value v) w := by simp [execOp, hop, hev]
    rw [hx, Oper.upon_value, hdst]
    exact hK _ _ (wpList_nil ⟨rfl, rfl, rfl⟩)
  · rintro e a w1 ⟨rfl, rfl, rfl⟩
    refine ⟨busyW w1 l rec, run_beginRound hl hst, ?_⟩
    have hother : ∀ b, b ≠ l → (busyW w1 l rec).heap[b]? = w1.heap[b]? := fun b hb => World.putObj_heap_other hb
    refine wpIn_mono (hB h ρ (busyW w1 l rec) _ (by simp [htm]) ?_ ?_ hap (put1 _ _ d (by simp [htm]) hd (put1 _ _ p htm hp hfr))) ?_
    · intro b cs hb
      obtain ⟨cur, el, fz, hc, hpr⟩ := hheap b cs hb
      exact ⟨cur, el, fz, by rw [hother b (fun e => by subst e; rw [hl] at hc; cases hc)]; exact hc, hpr⟩
    · intro s o' hs
      exact (hobjs s o' hs).world fun b hb => hother b fun e => hno s o' hs (e ▸ hb)
    · rintro e a' w3 ⟨h', ρ', Lout, hpo, hout⟩
      have hl3 : w3.heap[l]? = some (.loop { rec with state := .busy }) := by
        rw [hout.frame l (by simpa [busyW] using hlt) hno]
        exact World.putObj_heap_same hlt
      have hrec : ({ rec with state := .ready, pending := none } : Loop) = rec := by
        cases rec; simp only at hst hpe; subst hst hpe; rfl
      have hend := fun jump => run_endRound (P := P) jump hl3
      cases e with
      | normal =>
        refine ⟨_, _, hend none, .normal, h', ρ', Lout, w3, hpo, hout, rfl, ?_⟩
        simp only [Option.isNone_none, if_true]
        rw [hrec]
      | ret => exact ⟨_, _, hend (some .ret), .ret, h', ρ', Lout, w3, hpo, hout, rfl, rfl⟩
      | exit id => exact ⟨_, _, hend (some (.exit id)), .exit id, h', ρ', Lout, w3, hpo, hout, rfl, rfl⟩
      | goto g => exact ⟨_, _, hend (some (.goto g)), .goto g, h', ρ', Lout, w3, hpo, hout, rfl, rfl⟩
      | panic c => exact ((hpost _ _ hpo).1 c rfl).elim
      | outgrown => exact ((hpost _ _ hpo).2 rfl).elim
end Go.Sl

/- The region in which a function that is ranged over calls yield. (Under way.) -/
namespace Go.Sl
open Go

theorem oper_in2 {r : Option Nat} {P : Program} {o : Oper} {a : Act} {w : World} {K K' : Act → World → Prop} {Q Q' : Exit → Act → World → Prop} (hp : plainOp o.op = true) (h : o.wp P a w K Q') (hk : ∀ a w, K a w → K' a w) (hno : ¬ LetsOut Q') (hpa : ∀ c a w, ¬ Q' (.panic c) a w) : o.wpIn (FR r) 0 P a w K' Q := by
  have hd : ∀ c, o.op ≠ .defer c := by intro c e; rw [e] at hp; cases hp
  have hs : o.semAt (FR r).round a.eval = execOp a.eval o := by
    rw [fr_round]
    cases r with
    | none => simp [Oper.semAt]
    | some l => exact Oper.semAt_some l _ _ hd
  refine ⟨fun _ _ => trivial, ?_⟩
  rw [hs]
  unfold Oper.wp at h
  generalize (execOp a.eval o).run P w = res at *
  have hdep : ∀ {n : Nat}, (FR r).depth.isSome = true → 1 ≤ n := by intro n e; cases e
  cases res with
  | ok x w' =>
    cases x with
    | value v => exact hk _ _ h
    | skip => exact hk _ _ h
    | defer d => exact hk _ _ h
    | enter f args =>
      refine ⟨hdep, ?_⟩
      have h2 : CallsIn (FR r) 0 P f args w' _ := (callsIn_wide (n := 0)).2 h
      refine h2.mono fun e w'' he => ?_
      cases e with
      | returned v => exact hk _ _ he
      | panicked c => exact (hpa _ _ _ he).elim
      | outgrown => exact (hno he).elim
    | row row args =>
      refine ⟨hdep, fun c cs _ => ?_⟩
      obtain ⟨v, w'', hv, hst⟩ := h c cs
      exact ⟨v, w'', hk _ _ hv, stepsIn_wide.2 hst⟩
    | _ => exact h.elim
  | halt hlt w' =>
    cases hlt <;> first | exact (hpa _ _ _ h).elim | exact h.elim
theorem list_app {r : Option Nat} {P : Program} {ops : Array Oper} {Q Q' : Exit → Act → World → Prop} {rest : List Oper} (hno : ¬ LetsOut Q') (hpa : ∀ c a w, ¬ Q' (.panic c) a w) (hK : ∀ a w, Q' .normal a w → wpListIn (FR r) 0 P ops Q rest a w) :
    ∀ (l : List Oper) (a : Act) (w : World), (∀ o ∈ l, plainOp o.op = true) → wpList P ops Q' l a w → wpListIn (FR r) 0 P ops Q (l ++ rest) a w
  | [], a, w, _, h => hK a w h
  | o :: l, a, w, hp, h => by
    unfold wpList at h
    rw [List.cons_append]
    unfold wpListIn
    split
    · rename_i hw
      rw [if_pos hw] at h
      rcases h with h | h
      · exact oper_in2 (hp o (by simp)) h (fun a w hh => list_app hno hpa hK l a w (fun o ho => hp o (by simp [ho])) hh) hno hpa
      · exact (hno h.2).elim
    · rename_i hw
      rw [if_neg hw] at h
      exact ⟨fun _ _ => trivial, list_app hno hpa hK l _ _ (fun o ho => hp o (by simp [ho])) h⟩

/-- a call of yield -/
theorem run_yieldCall {P : Program} {w : World} {a : Act} {o : Oper} {c : Call} {x y : Operand} {l : Nat} {rec : Loop} {v : Value} {q : Tmp} (hop : o.op = .call c) (hcal : c.callee = .value x) (hargs : c.args = #[y]) (hx : a.eval x = .func (.yield l) #[] #[]) (hy : a.eval y = v)
    (hl : w.heap[l]? = some (.loop rec)) (hps : rec.params = #[q]) : (execOp a.eval o).run P w = .ok (.round l rec.fn (rec.tmps.setIfInBounds q v) rec.assign rec.body) w := by
  have hr := run_yield (P := P) (args := #[v]) hl (by rw [hps]; rfl)
  rw [hps] at hr
  simp only [execOp, hop, resolve, hcal, hargs, hx, Deferred.ofValue, Sem.run_bind, Sem.run_pure, Result.andThen_ok, invoke]
  simp [hy] at hr ⊢
  exact hr

def yieldAt (ops : Array Oper) (k : Nat) (fr : Fr) : Option (Nat × Nat × SV) :=
  match ops[k]? with
  | some o => match o.guard, o.dst, o.op with
    | none, some d, .call c => match c.callee, c.args.toList with
      | .value x, [y] => match evS fr none x, evS fr none y with
        | some (.one (.yl l)), some (.one v) => some (d, l, v)
        | _, _ => none
      | _, _ => none
    | _, _, _ => none
  | none => none
/-- what the record says of a loop with one variable -/
structure RecOk (rec : Loop) (n p d : Nat) : Prop where
  st : rec.state = .ready
  pe : rec.pending = none
  tm : rec.tmps.size = n
  ps : rec.params = #[p]
  as : ∃ id o, rec.assign = .region id #[o] false ∧ o.guard = none ∧ o.dst = some d ∧ o.op = .assign (.tmp p)
  hp : p < n
  hd : d < n
theorem lren_id (o : LObj) : o.ren (sig []) = o := by
  have hs : ∀ x : SV, x.ren (sig []) = x := by
    intro x
    cases x <;> try rfl
    rename_i f caps
    show SV.fn f (caps.map fun p => (sig [] p.1, p.2)) = SV.fn f caps
    congr 1
    conv => rhs; rw [← List.map_id caps]
    exact List.map_congr_left fun p _ => rfl
  cases o <;> try rfl
  case rows d t xs hls =>
    show LObj.rows d t xs (mapHs (SV.ren (sig [])) hls) = LObj.rows d t xs hls
    have : SV.ren (sig []) = fun x => x := funext hs
    rw [this, mapHs_id]
  rename_i cs
  show LObj.cells (cs.map (SV.ren (sig []))) = LObj.cells cs
  congr 1
  conv => rhs; rw [← List.map_id cs]
  exact List.map_congr_left fun x _ => hs x
theorem keep_put {α : Type} {n : Nat} {v : α} {L : List (Nat × α)} : ∀ {ks : List Nat}, n ∉ ks → keep ks (put L n v) = keep ks L
  | [], _ => rfl
  | k :: ks, h => by
    have h1 : n ≠ k := fun e => h (by simp [e])
    have h2 : n ∉ ks := fun e => h (by simp [e])
    simp only [keep]
    rw [get_put, if_neg h1, keep_put h2]
theorem foldr_raw (ms : List Nat) (l : Nat) (o : Obj) : ms.foldr LObj.kill (.raw l o) = .raw l o := by
  induction ms with
  | nil => rfl
  | cons m ms ih => rw [List.foldr_cons, ih]; rfl
theorem get_putAll_off {σ : List (Nat × Nat)} {t : Nat} : ∀ {Lo L : LL}, (∀ c o, (c, o) ∈ Lo → sig σ c ≠ t) → get (putAll σ Lo L) t = get L t
  | [], L, _ => rfl
  | (c, o) :: r, L, h => by
    rw [putAll, get_put, if_neg (h c o (by simp))]
    exact get_putAll_off fun c' o' hm => h c' o' (by simp [hm])
theorem get_putAll_same {σ : List (Nat × Nat)} {ms : List Nat} {n s : Nat} {v o : LObj} {L : LL} : ∀ {Lo : LL}, get (putAll σ Lo (killLs ms L)) s = some o → ¬ n = s → get (putAll σ Lo (killLs ms (put L n v))) s = some o
  | [], hs, e => by
    simp only [putAll] at hs ⊢
    rw [get_killLs] at hs ⊢
    rw [get_put, if_neg e]
    exact hs
  | (c, o') :: r, hs, e => by
    simp only [putAll] at hs ⊢
    rw [get_put] at hs ⊢
    split
    · rename_i h; rw [if_pos h] at hs; exact hs
    · rename_i h; rw [if_neg h] at hs; exact get_putAll_same hs e
section
variable {C : Ctx} {B : Code} {p : List Nat} {Q : Post} {fr fr1 : Fr} {L L1 : LL}
theorem W_yield (σ : List (Nat × Nat)) (k : Nat) (orcs : List (Nat × Orc)) (kF kL : List Nat) {obs : List Prop} {d l nR n1 q d1 : Nat} {y : SV} {rec : Loop} {fr0 : Fr} {Lin : LL} {post : Exit → LL → Prop} (h : isReg (nav B p) = true) (hrd : C.rd = none)
    (hrun : runR C.P C.n (opsOf (nav B p)) 0 k orcs kF kL fr L = some (fr1, L1, obs)) (ho : AllP obs) (hat : yieldAt (opsOf (nav B p)) k fr1 = some (d, l, y.ren (sig σ))) (hd : d < C.n) (hR : get L1 nR = some (.raw l (.loop rec))) (hrec : RecOk rec n1 q d1)
    (hfr0 : ∀ h (ρ : Nat → Value), Ext C.h0 h → (∀ s v, C.pin s = some v → ρ s = v) → FrOk h (fun c => ρ (sig σ c)) fr0 n1 rec.tmps)
    (hB : BodyC C.P n1 rec.body l (putF (putF fr0 q (.one y)) d1 (.one y)) Lin post) (hpost : ∀ e L, post e L → (∀ c, e ≠ .panic c) ∧ e ≠ .outgrown)
    (hL : keep (Lin.map fun p => sig σ p.1) L1 = some (Lin.map fun p => (sig σ p.1, p.2.ren (sig σ)))) (hnR : (Lin.all fun e => !(sig σ e.1 == nR)) = true) (hlin : decide ((Lin.map fun p => sig σ p.1).Nodup) = true) (hout : ∀ e Lout, post e Lout → lendOk3 σ Lin Lout [] = true)
    (hgo : ∀ Lout, post .normal Lout → WO C (opsOf (nav B p)) (k + 1) Q (putF (killFs (anew σ Lin []) fr1) d (.one (.dat .bool true))) (put (putAll σ Lout (killLs (anew σ Lin []) L1)) nR (.raw l (.loop rec))))
    (hstop : ∀ e Lout, e ≠ .normal → post e Lout → WO C (opsOf (nav B p)) (k + 1) Q (putF (killFs (anew σ Lin []) fr1) d (.one (.dat .bool false))) (put (putAll σ Lout (killLs (anew σ Lin []) L1)) nR (.raw l (.loop { rec with state := .done, pending := jumpOf e })))) :
    W C (nav B p) Q fr L := by
  cases hc : nav B p <;> simp only [hc, isReg, Bool.false_eq_true] at h
  rename_i id ops dd
  simp only [Bool.and_eq_true, Bool.not_eq_true'] at h
  obtain ⟨h, hpl⟩ := h
  subst h
  simp only [hc, opsOf] at hrun hat hgo hstop
  intro a w hr
  obtain ⟨hdl, f, L2, hrun2, hre⟩ := runR_spec hrun
  -- the operation
  unfold yieldAt at hat
  split at hat
  case h_2 => cases hat
  rename_i o hok
  split at hat
  case h_2 => cases hat
  rename_i d' c hg hdst hop
  split at hat
  case h_2 => cases hat
  rename_i x y' hcal hargs
  split at hat
  case h_2 => cases hat
  rename_i l' v' hx hy
  simp only [Option.some.injEq, Prod.mk.injEq] at hat
  obtain ⟨rfl, rfl, rfl⟩ := hat
  have hargs' : c.args = #[y'] := by rw [← Array.toList_inj]; simpa using hargs
  have hklt : k < ops.toList.length := by simpa using (Array.getElem?_eq_some_iff.1 hok).1
  have hsplit : ops.toList = ops.toList.take k ++ o :: ops.toList.drop (k + 1) := by
    have h1 : ops.toList[k] = o := by
      have := (Array.getElem?_eq_some_iff.1 hok).2
      simpa using this
    rw [← h1, List.getElem_cons_drop, List.take_append_drop]
  refine wpIn_mono (Q := lift C (normQ Q)) (wpIn_region_list ?_) (fun _ _ _ ⟨f, l, hr, hq⟩ => ⟨f, l, hr, hq.2⟩)
  have hpo : ∀ o ∈ ops.toList, plainOp o.op = true := fun o ho => List.all_eq_true.1 hpl o ho
  rw [hsplit]
  have first := run_sound (Q := fun e a w => e = .normal ∧ Rel C fr1 L1 a w) (ops.toList.take k) 0 [] fr L a w f L2 obs hr (by simpa using hdl) (by simpa using hrun2) ho (fun a' w' hr' => wpList_nil ⟨rfl, hr'.keep (restr_spec hre).1 (restr_spec hre).2⟩)
  rw [List.append_nil] at first
  refine list_app (by rintro ⟨_, _, h, _⟩; cases h) (by rintro c a w ⟨h, _⟩; cases h) ?_ _ a w (fun o ho => hpo o (List.mem_of_mem_take ho)) first
  rintro a1 w1 ⟨_, h0, ρ, hr1⟩
  unfold wpListIn
  rw [if_pos (by simp [Region.wanted, hg])]
  refine ⟨fun _ _ => trivial, ?_⟩
  rw [fr_round, hrd]
  have hsem : o.semAt none a1.eval = execOp a1.eval o := by simp [Oper.semAt]
  rw [hsem]
  have hxv : a1.eval x = .func (.yield l') #[] #[] := (evS_sound hr1.fr (gd := none) (fun _ _ e => by cases e) hx).1
  have hyv : SRel h0 (fun c => ρ (sig σ c)) y (a1.eval y') := srel_ren.2 (evS_sound hr1.fr (gd := none) (fun _ _ e => by cases e) hy).1
  obtain ⟨hρR, hownR, hhR, hlR, _⟩ := hr1.objs _ _ hR
  rw [run_yieldCall hop hcal hargs' hxv rfl hlR hrec.ps]
  refine ⟨fun e => (by cases e), ?_⟩
  obtain ⟨aid, ao, has, hag, had, hao⟩ := hrec.as
  have hlinL : ∀ s o, get Lin s = some o → get L1 (sig σ s) = some (o.ren (sig σ)) := fun s o hs => keep_map hL (get_mem _ _ _ hs)
  have hnd := of_decide_eq_true hlin
  have hinj : ∀ s s' o o', get Lin s = some o → get Lin s' = some o' → s ≠ s' → sig σ s ≠ sig σ s' := fun s s' o o' hs hs' hne e =>
    hne (nodup_map_inj (f := sig σ) (l := Lin.map (·.1)) (by rw [List.map_map]; exact hnd) (List.mem_map.2 ⟨_, get_mem _ _ _ hs, rfl⟩) (List.mem_map.2 ⟨_, get_mem _ _ _ hs', rfl⟩) e)
  have hlinR : ∀ s o, get Lin s = some o → sig σ s ≠ nR := by
    intro s o hs e
    have := List.all_eq_true.1 hnR _ (get_mem _ _ _ hs)
    simp [e] at this
  have hblkR : Blk (ρ nR) l' := by rw [hρR]; rfl
  have hnoL : ∀ s o, get Lin s = some o → ¬ Blk (ρ (sig σ s)) l' := fun s o hs => hr1.apart nR (sig σ s) _ _ l' (Ne.symm (hlinR s o hs)) hR (hlinL s o hs) hblkR
  have hround := round_in (P := C.P) (n := n1) (l := l') (rec := rec) (h := h0) (ρ := fun c => ρ (sig σ c)) (w := w1) (fr0 := fr0) (Lin := Lin) (post := post) (p := q) (d := d1) (x := y) (v := a1.eval y') hlR hrec.st hrec.pe hrec.tm has hag had hao hrec.hp hrec.hd hB hpost hr1.heap
    (fun s o hs => orel_ren.2 ((hr1.objs _ _ (hlinL s o hs)).own_mono fun _ _ => trivial)) hnoL (fun s s' o o' b hne hs hs' => hr1.apart _ _ _ _ b (hinj s s' o o' hs hs' hne) (hlinL s o hs) (hlinL s' o' hs')) (hfr0 h0 ρ hr1.ext hr1.pin) hyv
  have hwide : RoundIn (FR C.rd) 0 C.P l' rec.fn (rec.tmps.setIfInBounds q (a1.eval y')) rec.assign rec.body w1 (roundR C.P n1 l' rec h0 (fun c => ρ (sig σ c)) w1 Lin post) := by rw [hrd]; exact hround
  have hlt : l' < w1.heap.size := (Array.getElem?_eq_some_iff.1 hlR).1
  have rawOk : ∀ (rec' : Loop) (w' : World), w'.heap[l']? = some (.loop rec') → ORel C.own h0 ρ w' (ρ nR) (.raw l' (.loop rec')) := fun rec' w' hw => ⟨by rw [hρR]; rfl, hownR, hhR, hw, fun _ e => by cases e⟩
  have hbusy : RelH C h0 ρ fr1 (put L1 nR (.raw l' (.loop { rec with state := .busy }))) a1 (busyW w1 l' rec) :=
    hr1.write nR _ _ _ l' hR hblkR rfl rfl rfl (by simp [busyW, World.putObj]) (fun b _ hb => World.putObj_heap_other hb) (rawOk _ _ (World.putObj_heap_same hlt))
  refine hwide.mono fun e w2 hR2 => ?_
  obtain ⟨ex, h', ρ', Lout, w3, hpo3, hout3, hend⟩ := hR2
  have hlend := hout _ _ hpo3
  have hnames : Lout.map (·.1) = Lin.map (·.1) := by
    have hl2 := hlend
    unfold lendOk3 at hl2
    simp only [Bool.and_eq_true, decide_eq_true_eq, List.append_nil] at hl2
    exact hl2.1.1.1.1.2
  have hkeep : keep (Lin.map fun p => sig σ p.1) (put L1 nR (.raw l' (.loop { rec with state := .busy }))) = some (Lin.map fun p => (sig σ p.1, p.2.ren (sig σ))) := by
    rw [keep_put (fun hm => by
      obtain ⟨p, hp, e⟩ := List.mem_map.1 hm
      have := List.all_eq_true.1 hnR _ hp
      simp [e] at this)]
    exact hL
  obtain ⟨ρ2, hρ2, hr3⟩ := hbusy.lend3 (σ := σ) (nn := []) hlend hkeep hout3
  have hl3 : w3.heap[l']? = some (.loop { rec with state := .busy }) := by
    rw [hout3.frame l' (by simpa [busyW, World.putObj] using hlt) hnoL]
    exact World.putObj_heap_same hlt
  have hnotin : ∀ c o, (c, o) ∈ Lout → sig σ c ≠ nR := by
    intro c o hm e
    have h1 : c ∈ Lin.map (·.1) := by rw [← hnames]; exact List.mem_map.2 ⟨_, hm, rfl⟩
    obtain ⟨p, hp, hpc⟩ := List.mem_map.1 h1
    have := List.all_eq_true.1 hnR _ hp
    simp [hpc, e] at this
  have hgR : get (putAll σ Lout (killLs (anew σ Lin []) (put L1 nR (.raw l' (.loop { rec with state := .busy }))))) nR = some (.raw l' (.loop { rec with state := .busy })) := by
    rw [get_putAll_off hnotin, get_killLs, get_put, if_pos rfl]
    simp only [Option.map_some, Option.some.injEq]
    exact foldr_raw _ _ _
  obtain ⟨hρ3, hown3, hh3, _, _⟩ := hr3.objs _ _ hgR
  have hblk3 : Blk (ρ2 nR) l' := by rw [hρ3]; rfl
  have hlt3 : l' < w3.heap.size := (Array.getElem?_eq_some_iff.1 hl3).1
  have last : ∀ (rec2 : Loop) (bb : Bool), w2 = w3.putObj l' (.loop rec2) →
      WO C ops (k + 1) Q (putF (killFs (anew σ Lin []) fr1) d' (.one (.dat .bool bb))) (put (putAll σ Lout (killLs (anew σ Lin []) L1)) nR (.raw l' (.loop rec2))) →
      wpListIn (FR none) 0 C.P ops (lift C (normQ Q)) (ops.toList.drop (k + 1)) (a1.put o.dst (.bool bb)) w2 := by
    rintro rec2 bb rfl hwo
    have hr4 : RelH C h' ρ2 (killFs (anew σ Lin []) fr1) _ a1 (w3.putObj l' (.loop rec2)) := hr3.write nR _ (.raw l' (.loop rec2)) _ l' hgR hblk3 rfl rfl rfl (by simp [World.putObj]) (fun b _ hb => World.putObj_heap_other hb) ⟨by rw [hρ3]; rfl, hown3, hh3, World.putObj_heap_same hlt3, fun _ e => by cases e⟩
    have hr5 : RelH C h' ρ2 (killFs (anew σ Lin []) fr1) (put (putAll σ Lout (killLs (anew σ Lin []) L1)) nR (.raw l' (.loop rec2))) a1 (w3.putObj l' (.loop rec2)) := hr4.less fun s o hs => by
      rw [get_put] at hs ⊢
      split
      · rename_i e; rw [if_pos e] at hs; exact hs
      · rename_i e
        rw [if_neg e] at hs
        exact get_putAll_same hs e
    have hr6 := hr5.putSlot d' (.one (.dat .bool bb)) (.bool bb) hd vrel_bool
    have := list_in (r := none) normQ_noOut _ _ _ (fun o ho => hpo o (List.mem_of_mem_drop ho)) (hwo _ _ ⟨h', ρ2, hr6⟩)
    rw [hdst]
    exact this
  cases ex with
  | normal => obtain ⟨rfl, hw2⟩ := hend; exact last rec true hw2 (hgo Lout hpo3)
  | ret => obtain ⟨rfl, hw2⟩ := hend; exact last _ false hw2 (hstop .ret Lout (by simp) hpo3)
  | exit i => obtain ⟨rfl, hw2⟩ := hend; exact last _ false hw2 (hstop (.exit i) Lout (by simp) hpo3)
  | goto g => obtain ⟨rfl, hw2⟩ := hend; exact last _ false hw2 (hstop (.goto g) Lout (by simp) hpo3)
  | panic c => exact ((hpost _ _ hpo3).1 c rfl).elim
  | outgrown => exact ((hpost _ _ hpo3).2 rfl).elim
end
end Go.Sl

/- A range over a function, for the caller. (Under way.) -/
namespace Go.Sl
open Go

/-- the contract of a function that is ranged over: as FnC, but what fr0 says of the loop's temporaries tm1 is known -/
def FnI (P : Program) (f : Nat) (args : List AV) (Lin : LL) (R : AV) (Lout : LL) (n1 : Nat) (fr0 : Fr) (tm1 : Array Value) : Prop :=
  ∀ (h : Heap) (ρ : Nat → Value) (w : World) (vs : List Value), HeapOk h w → (∀ s o, get Lin s = some o → ORel (fun _ => True) h ρ w (ρ s) o) → Apart ρ Lin → All2 (VRel h ρ #[]) args vs → FrOk h ρ fr0 n1 tm1 →
    Calls P f vs.toArray w fun e w' => ∃ v h' ρ', e = .returned v ∧ VRel h' ρ' #[] R v ∧ Out h ρ w Lin h' ρ' w' Lout

theorem mem_get {α : Type} {p : Nat × α} : ∀ {L : List (Nat × α)}, p ∈ L → ∃ o, get L p.1 = some o
  | (k, v) :: L, h => by
    rw [get]
    split
    · exact ⟨v, rfl⟩
    · rename_i hk
      rcases List.mem_cons.1 h with e | hm
      · exact (hk (by rw [e])).elim
      · exact mem_get hm
/-- all that fr0 says is data or names of variables that keep their place -/
def pinnedFr (Lin : LL) (fr0 : Fr) : Bool := fr0.all fun e => match e.2 with | .one x => x.inN ((Lin.filter fun p => !nameOk p.1).map (·.1)) | _ => false

theorem fnI_of_W (σ : List (Nat × Nat)) {P : Program} {f : Nat} {fn : Func} {B : Code} {args : List AV} {Lin : LL} {R : AV} {Lout : LL} {n n1 : Nat} {fr0 : Fr} {tm1 : Array Value} (hf : P.funcs[f]? = some fn) (hb : fn.body = some B) (hn : fn.ntmps = n)
    (hlen' : Nat.ble args.length n = true) (hsure : args.all (·.sure) = true) (hnm : Lin.all (fun p => decide (1000 ≤ p.1)) = true) (hpin : pinnedFr Lin fr0 = true) (hσ : (Lin.all fun p => nameOk p.1 || (sig σ p.1 == p.1)) = true)
    (hW : ∀ K : Base, (∀ h (ρ : Nat → Value), Ext K.h0 h → (∀ s v, K.pin s = some v → ρ s = v) → FrOk h (fun c => ρ (sig σ c)) fr0 n1 tm1) → W (K.ctx P n) (nav B []) (retQ P fn.results.toList R Lout) (argFr 0 args) Lin) : FnI P f args Lin R Lout n1 fr0 tm1 := by
  intro h ρ w vs hheap hobjs hap hargs hfr
  refine calls_of_WK hf hb hn hlen' hsure hnm h ρ w vs hheap hobjs hap hargs (hW _ ?_)
  intro h2 ρ2 hx hp t av ht
  obtain ⟨h1, h3⟩ := hfr t av ht
  refine ⟨h1, ?_⟩
  have hin := List.all_eq_true.1 hpin _ (get_mem _ _ _ ht)
  have hagree : ∀ m, m ∈ (Lin.filter fun p => !nameOk p.1).map (·.1) → ρ2 (sig σ m) = ρ m := by
    intro m hm
    obtain ⟨p, hpm, rfl⟩ := List.mem_map.1 hm
    obtain ⟨hpl, hpn⟩ := List.mem_filter.1 hpm
    have hid := List.all_eq_true.1 hσ _ hpl
    simp only [Bool.not_eq_true'] at hpn
    simp only [hpn, Bool.false_or, beq_iff_eq] at hid
    rw [hid]
    refine hp _ _ ?_
    have hg := mem_get hpl
    obtain ⟨o, ho⟩ := hg
    simp [baseOf, hpn, ho]
  cases av with
  | one x => exact (srel_agree (ρ' := fun c => ρ2 (sig σ c)) hagree hin h3).mono hx
  | agg xs => cases hin
  | tup xs => cases hin
  | mb g b x => cases hin

section
variable {C : Ctx} {h : Heap} {ρ : Nat → Value} {fr : Fr} {L : LL} {a : Act} {w : World}
/-- a new block without a name -/
theorem RelH.allocOther (hr : RelH C h ρ fr L a w) (o : Obj) : RelH C h ρ fr L a (w.alloc o) :=
  have hold : ∀ b : Nat, b < w.heap.size → (w.alloc o).heap[b]? = w.heap[b]? := fun b hb => heap_alloc_old w _ hb
  { hr with
    defers := hr.defers.keep fun D hD => hold D (Array.getElem?_eq_some_iff.1 hD).1
    heap := fun b cs hb => by
      obtain ⟨cur, e, fz, hc, hp⟩ := hr.heap b cs hb
      exact ⟨cur, e, fz, by rw [hold b (Array.getElem?_eq_some_iff.1 hc).1]; exact hc, hp⟩
    objs := fun s x hs => (hr.objs s x hs).world fun b hb => hold b ((hr.objs s x hs).block hb).2.2
    os := hr.os
    tape := hr.tape
    output := hr.output
    grow := Nat.le_trans hr.grow (by simp)
    frame := fun b hb hX => by rw [hold b (Nat.lt_of_lt_of_le hb hr.grow)]; exact hr.frame b hb hX }

theorem capsV {σ : List (Nat × Nat)} {ρ3 : Nat → Value} {tm : Array Value} {h : Heap} : ∀ {caps : List (Nat × Nat)} {cs : List Value}, All2 (Refs ρ3) (caps.map fun c => (sig σ c.1, c.2)) cs → All2 (VRel h (fun c => ρ3 (sig σ c)) tm) (caps.map fun c => AV.one (.ptr c.1 c.2)) cs
  | [], _, .nil => .nil
  | _ :: _, _, .cons h1 t => .cons h1 (capsV t)

theorem get_map2 {f : AV → AV} : ∀ (l : Fr) (t : Nat), get (l.map fun e => (e.1, f e.2)) t = (get l t).map f
  | [], _ => rfl
  | (k, v) :: l, t => by
    simp only [List.map_cons, get]
    split
    · rfl
    · exact get_map2 l t
theorem keep_mem {α : Type} : ∀ (ks : List Nat) (l l' : List (Nat × α)), keep ks l = some l' → ∀ t v, get l' t = some v → t ∈ ks
  | [], l, l', e, t, v, hv => by simp only [keep, Option.some.injEq] at e; subst e; cases hv
  | k :: ks, l, l', e, t, v, hv => by
    simp only [keep] at e
    split at e
    · rename_i x r hx hr
      simp only [Option.some.injEq] at e; subst e
      rw [get] at hv
      split at hv
      · rename_i hk; simp [hk]
      · exact List.mem_cons_of_mem _ (keep_mem ks l r hr t v hv)
    · cases e
theorem putAll_snoc {σ : List (Nat × Nat)} {c : Nat} {o : LObj} {L : LL} : ∀ {Lo : LL}, putAll σ (Lo ++ [(c, o)]) L = putAll σ Lo (put L (sig σ c) (o.ren (sig σ)))
  | [] => rfl
  | (c', o') :: r => by
    rw [List.cons_append, putAll, putAll, putAll_snoc]

def rangeFAt : Code → Option (Nat × Nat × Code × Code)
  | .rangeFunc (.tmp g) ps as body => match ps.toList with | [q] => some (g, q, as, body) | _ => none
  | _ => none
/-- the record that the loop lays -/
def recOf (fn : Nat) (tm : Array Value) (q : Nat) (as body : Code) (D : Nat) : Loop := { state := .ready, pending := none, fn := fn, tmps := tm, params := #[q], assign := as, body := body, defers := D }

def endRec (j : Exit) (rec : Loop) : Loop := match j with | .normal => rec | j => { rec with state := .done, pending := jumpOf j }
/-- a range over a function: the closure's contract, for whatever record; nR: the record's name; j: how the rounds end -/
theorem W_rangeF {B : Code} {p : List Nat} {Q : Post} (nR g q f : Nat) {asg body : Code} {caps : List (Nat × Nat)} {fr0 : Fr} (σ : List (Nat × Nat)) {Lin Lout : LL} {R : AV} (j : Exit) (hc : rangeFAt (nav B p) = some (g, q, asg, body)) (hrd : C.rd = none) (hdlo : C.dlo ≤ C.w0.heap.size)
    (hg : get (killF nR fr) g = some (.one (.fn f (caps.map fun c => (sig σ c.1, c.2))))) (hfn : isFn C.P f = true) (hnR : decide (nR < 1000) = true)
    (hfrk : keep (fr0.map (·.1)) (killF nR fr) = some (fr0.map fun e => (e.1, e.2.ren (sig σ))))
    (hI : ∀ (l fn D : Nat) (tm : Array Value), tm.size = C.n → FnI C.P f (.one (.yl l) :: caps.map fun c => .one (.ptr c.1 c.2)) (Lin ++ [(1999, .raw l (.loop (recOf fn tm q asg body D)))]) R
      (Lout ++ [(1999, .raw l (.loop (endRec j (recOf fn tm q asg body D))))]) C.n fr0 tm)
    (hj : j = .normal ∨ j = .ret ∨ ∃ i, j = .exit i)
    (hL : ∀ l rec, keep ((Lin ++ [(1999, LObj.raw l (.loop rec))]).map fun (e : Nat × LObj) => sig σ e.1) (newL nR (.raw l (.loop rec)) L) = some ((Lin ++ [(1999, LObj.raw l (.loop rec))]).map fun (e : Nat × LObj) => (sig σ e.1, e.2.ren (sig σ))))
    (hk : ∀ l rec rec', lendOk3 σ (Lin ++ [(1999, .raw l (.loop rec))]) (Lout ++ [(1999, .raw l (.loop rec'))]) [] = true) (hsig : sig σ 1999 = nR)
    (kF kL : List Nat) {fr' : Fr} {L' : LL}
    (hre : ∀ l rec rec', restr kF kL (killFs (anew σ (Lin ++ [(1999, .raw l (.loop rec))]) []) (killF nR fr)) (putAll σ (Lout ++ [(1999, .raw l (.loop rec'))]) (killLs (anew σ (Lin ++ [(1999, .raw l (.loop rec))]) []) (newL nR (.raw l (.loop rec)) L))) = some (fr', L'))
    (hkR : (kL.all fun s => !(s == nR)) = true) (hq : Q j fr' L') : W C (nav B p) Q fr L := by
  unfold rangeFAt at hc
  split at hc
  case h_2 => cases hc
  rename_i g' ps as' body' hcode
  split at hc
  case h_2 => cases hc
  rename_i q' hps
  simp only [Option.some.injEq, Prod.mk.injEq] at hc
  obtain ⟨rfl, rfl, rfl, rfl⟩ := hc
  have hps' : ps = #[q'] := by rw [← Array.toList_inj]; simpa using hps
  subst hps'
  rw [hcode]
  rintro a w ⟨h, ρ, hr⟩
  refine wpIn_rangeFunc ?_
  intro fn _
  rw [fr_round, hrd]
  have hnR' := of_decide_eq_true hnR
  -- the two blocks
  obtain ⟨rec, hrec⟩ : ∃ rec, rec = recOf fn a.tmps q' as' body' w.heap.size := ⟨_, rfl⟩
  have hr1 := hr.allocOther (.deferred (some []))
  have hsz : (w.alloc (.deferred (some []))).heap.size = w.heap.size + 1 := by simp
  have hmark : DOk C (w.alloc (.deferred (some []))) (dMark w.heap.size :: a.defers) := by
    obtain ⟨Ds, e1, e2, e3⟩ := hr1.defers
    obtain ⟨Ds0, f1, f2, f3⟩ := hr.defers
    have : Ds = Ds0 := by
      rw [e1] at f1
      have hinj : ∀ (A B : List Nat), A.map dMark = B.map dMark → A = B := by
        intro A
        induction A with
        | nil => intro B hB; cases B with
          | nil => rfl
          | cons b B => cases hB
        | cons x A ih => intro B hB; cases B with
          | nil => cases hB
          | cons b B =>
            simp only [List.map_cons, List.cons.injEq, dMark, Deferred.mk.injEq, and_true] at hB
            obtain ⟨hx, hB⟩ := hB
            have : x = b := by injection hx
            rw [this, ih B hB]
      exact hinj _ _ f1
    subst this
    refine ⟨w.heap.size :: Ds, by rw [List.map_cons, e1], List.nodup_cons.2 ⟨fun hm => ?_, e2⟩, fun D hD => ?_⟩
    · have := (Array.getElem?_eq_some_iff.1 (f3 _ hm).2).1
      omega
    · rcases List.mem_cons.1 hD with rfl | hD
      · exact ⟨Nat.le_trans hdlo hr.grow, heap_alloc_new w _⟩
      · exact e3 D hD
  have hr2 : RelH C h ρ fr L { a with defers := dMark w.heap.size :: a.defers } (w.alloc (.deferred (some []))) := { hr1 with defers := hmark }
  have hfreeh : ∀ b, w.heap.size ≤ b → h b = none := by
    intro b hb
    cases hq : h b with
    | none => rfl
    | some cs => obtain ⟨cur, _, _, hc, _⟩ := hr.heap _ _ hq; have := (Array.getElem?_eq_some_iff.1 hc).1; omega
  have hr3 := hr2.fresh_name nR (by simp [nameOk, hnR']) (.pointer (some ⟨w.heap.size + 1, 0, none⟩)) (.raw (w.heap.size + 1) (.loop rec)) ((w.alloc (.deferred (some []))).alloc (.loop rec)) rfl rfl rfl (by simp) none (fun b hb => by cases hb) (fun b hb _ => heap_alloc_old _ _ hb)
    ⟨rfl, .inl (Nat.le_trans hr.grow (by omega)), hfreeh _ (by omega), by have := heap_alloc_new (w.alloc (.deferred (some []))) (.loop rec); rwa [hsz] at this, fun _ e => by cases e⟩ (fun b hb s' o' _ ho' hb' => by
      simp [Blk] at hb
      subst hb
      have := ((hr.objs s' o' ho').block hb').2.2
      omega) (fun _ b hb => by
      simp [Blk] at hb
      subst hb
      exact Nat.le_trans hr.grow (by omega))
  obtain ⟨cs, hgv, hcs⟩ := (hr3.fr g' _ hg).2
  have hev : a.eval (.tmp g') = .func (.func f) #[] cs.toArray := hgv
  generalize hW1 : (w.alloc (.deferred (some []))).alloc (.loop rec) = W1 at *
  generalize hρ3 : upd ρ nR (.pointer (some ⟨w.heap.size + 1, 0, none⟩)) = ρ3 at *
  refine ⟨w.heap.size + 1, [{ target := .collected w.heap.size, args := #[] }], W1, { target := .fn (.func f) cs.toArray, args := #[.func (.yield (w.heap.size + 1)) #[] #[]] }, W1, f, #[.func (.yield (w.heap.size + 1)) #[] #[]] ++ cs.toArray, W1, ?_, ?_, fun _ _ => trivial, ?_, fun e => (by cases e), ?_⟩
  · rw [← hW1, hrec]; exact run_enterLoop_outer _ _ _ _ _
  · simp only [resolve, hev]
    simp [go_sem]
  · simp [invoke, run_callFunc hfn]
  · have hIl := hI (w.heap.size + 1) fn w.heap.size a.tmps hr.size
    rw [← hrec] at hIl
    have hLl := hL (w.heap.size + 1) rec
    have inL : ∀ {c o}, get (Lin ++ [(1999, LObj.raw (w.heap.size + 1) (.loop rec))]) c = some o → get (newL nR (.raw (w.heap.size + 1) (.loop rec)) L) (sig σ c) = some (o.ren (sig σ)) := fun hg => keep_map hLl (get_mem _ _ _ hg)
    have hk1 := hk (w.heap.size + 1) rec (endRec j rec)
    have hk0 := hk1
    unfold lendOk3 at hk0
    simp only [Bool.and_eq_true, decide_eq_true_eq] at hk0
    obtain ⟨⟨⟨⟨⟨⟨hnd, hsnd⟩, _⟩, _⟩, _⟩, _⟩, _⟩ := hk0
    have hcall := hIl h (fun c => ρ3 (sig σ c)) W1 (.func (.yield (w.heap.size + 1)) #[] #[] :: cs) hr3.heap (fun s o hs => orel_ren.2 ((hr3.objs _ _ (inL hs)).own_mono fun _ _ => trivial))
      (fun s s' o1 o2 b hne hs hs' hb => hr3.apart (sig σ s) (sig σ s') _ _ b (fun e => hne (nodup_map_inj hsnd (List.mem_append_left _ (List.mem_map.2 ⟨_, get_mem _ _ _ hs, rfl⟩)) (List.mem_append_left _ (List.mem_map.2 ⟨_, get_mem _ _ _ hs', rfl⟩)) e)) (inL hs) (inL hs') hb)
      (.cons rfl (capsV hcs)) (fun t av ht => ?_)
    · have hc2 := (callsIn_wide (n := 0)).2 hcall
      have e : (Value.func (.yield (w.heap.size + 1)) #[] #[] :: cs).toArray = #[Value.func (.yield (w.heap.size + 1)) #[] #[]] ++ cs.toArray := by apply Array.ext'; simp
      rw [← e]
      refine CallsIn.mono (F := FR none) hc2 ?_
      rintro e w2 ⟨v, h', ρ', rfl, _, hout⟩
      obtain ⟨ρ2, hρ2, hr4⟩ := hr3.lend3 (σ := σ) (nn := []) hk1 hLl hout
      have hnames : (Lout ++ [(1999, LObj.raw (w.heap.size + 1) (.loop (endRec j rec)))]).map (fun (e : Nat × LObj) => e.1) = (Lin ++ [(1999, LObj.raw (w.heap.size + 1) (.loop rec))]).map (fun (e : Nat × LObj) => e.1) := by
        have := hk1
        unfold lendOk3 at this
        simp only [Bool.and_eq_true, decide_eq_true_eq] at this
        rw [this.1.1.1.1.2, List.append_nil]
      have hsndo : ((Lout ++ [(1999, LObj.raw (w.heap.size + 1) (.loop (endRec j rec)))]).map fun (e : Nat × LObj) => sig σ e.1).Nodup := by
        have h1 := hsnd
        rw [List.append_nil, ← hnames, List.map_map] at h1
        exact h1
      have hndo : ((Lout ++ [(1999, LObj.raw (w.heap.size + 1) (.loop (endRec j rec)))]).map (fun (e : Nat × LObj) => e.1)).Nodup := by rw [hnames]; simpa using hnd
      obtain ⟨_, _, _, hl2, _⟩ := hout.objs 1999 _ (get_of_mem hndo (List.mem_append_right _ (List.mem_singleton.2 rfl)))
      have hg4 : get (putAll σ (Lout ++ [(1999, LObj.raw (w.heap.size + 1) (.loop (endRec j rec)))]) (killLs (anew σ (Lin ++ [(1999, LObj.raw (w.heap.size + 1) (.loop rec))]) []) (newL nR (.raw (w.heap.size + 1) (.loop rec)) L))) nR = some (.raw (w.heap.size + 1) (.loop (endRec j rec))) := by
        rw [putAll_snoc, get_putAll_off (fun c o hm e => ?_), get_put, if_pos hsig]
        · rfl
        · rw [List.map_append, List.nodup_append] at hsndo
          exact hsndo.2.2 _ (List.mem_map.2 ⟨_, hm, rfl⟩) _ (List.mem_map.2 ⟨_, List.mem_singleton.2 rfl, rfl⟩) (by rw [e, hsig])
      obtain ⟨hkF, hkL⟩ := restr_spec (hre (w.heap.size + 1) rec (endRec j rec))
      have hr5 : RelH C h' ρ2 fr' L' { a with defers := dMark w.heap.size :: a.defers } w2 := { hr4 with
        fr := fun t av ht => hr4.fr t av (keep_get _ _ _ hkF t av ht)
        objs := fun s o ho => hr4.objs s o (keep_get _ _ _ hkL s o ho)
        apart := fun s s' o o' b hne hs hs' => hr4.apart s s' o o' b hne (keep_get _ _ _ hkL s o hs) (keep_get _ _ _ hkL s' o' hs')
        low := fun s o b hs => hr4.low s o b (keep_get _ _ _ hkL s o hs) }
      have hblk4 : Blk (ρ2 nR) (w.heap.size + 1) := by
        obtain ⟨hq, _⟩ := hr4.objs _ _ hg4
        rw [hq]; rfl
      have hr6 := hr5.turn (D := w.heap.size + 1) (o' := .loop { endRec j rec with state := .exhausted }) (ds := dMark w.heap.size :: a.defers) (fun c hc => by
          obtain ⟨cur, _, _, hcc, _⟩ := hr5.heap _ _ hc
          rw [hl2] at hcc; cases hcc)
        (fun s o hs hb => by
          have hsk := keep_mem _ _ _ hkL s o hs
          have hne : s ≠ nR := by
            have := List.all_eq_true.1 hkR s hsk
            simpa using this
          exact hr4.apart s nR _ _ _ hne (keep_get _ _ _ hkL s o hs) hg4 hb hblk4)
        (Nat.le_trans hr.grow (by omega)) (hr5.defers.keep fun D hD => World.putObj_heap_other fun e => by subst e; rw [hl2] at hD; cases hD)
      have hst : (endRec j rec).state ≠ .busy := by
        rw [hrec]
        rcases hj with rfl | rfl | ⟨i, rfl⟩ <;> simp [endRec, recOf]
      refine ⟨_, _, run_endLoop hl2 hst, ?_⟩
      rcases hj with rfl | rfl | ⟨i, rfl⟩
      · rw [hrec]
        exact ⟨fr', L', ⟨h', ρ2, by rw [hrec] at hr6; exact hr6⟩, hq⟩
      · exact wpIn_ret ⟨fr', L', ⟨h', ρ2, hr6⟩, hq⟩
      · exact wpIn_exit ⟨fr', L', ⟨h', ρ2, hr6⟩, hq⟩
    · have h1 : get (fr0.map fun e => (e.1, e.2.ren (sig σ))) t = some (av.ren (sig σ)) := by rw [get_map2, ht]; rfl
      obtain ⟨h2, h3⟩ := hr3.fr t _ (keep_get _ _ _ hfrk t _ h1)
      exact ⟨h2, vrel_ren.2 h3⟩
end
end Go.Sl
