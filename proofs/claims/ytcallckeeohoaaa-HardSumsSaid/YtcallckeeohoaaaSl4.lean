/- Regions that draw their order, how arguments are read, and plain facts, of the certifying translation. -/
import Derived.Test.YtcallckeeohoaaaSl3
import Derived.Carry
import Derived.OpenShut
import Derived.ChangeOld
import Derived.ProofKit
set_option linter.all false
/- Regions that draw their order, with operations that may come late: moves and parts of tuples, which no other operation minds. -/
namespace Go.Sl
open Go

/-- an operation that looks at slots alone -/
def latePure (o : Oper) : Bool := o.guard.isNone && (match o.op with | .move _ | .assign _ | .extract _ _ => true | _ => false)
/-- an operation that may be late, or that a timely one waits for -/
def heldL (ops : Array Oper) (m : Nat) (late : List Nat) (j : Nat) : Bool :=
  late.contains j || (List.range m).any fun k => !late.contains k && match ops[k]? with | some o => (edgesOf o).contains j | none => false
def drawOkL (ops : Array Oper) (m : Nat) (late : List Nat) : Bool :=
  decide (m ≤ ops.size) &&
  (ops.toList.zipIdx.all fun p => (edgesOf p.1).all (fun j => decide (j < p.2)) && (match p.1.guard with | some (j, _) => (edgesOf p.1).contains j | none => true) &&
    (if p.2 < m then p.1.dst.isSome else if p.2 = m then (List.range m).all fun j => (edgesOf p.1).contains j || heldL ops m late j else (edgesOf p.1).contains (p.2 - 1))) &&
  decide (((ops.toList.take m).filterMap (·.dst)).Nodup) && Region.noSelect ops &&
  (late.all fun j => match ops[j]? with
    | some oj => latePure oj && (ops.toList.zipIdx.all fun p => p.2 == j || !(late.contains p.2 || decide (m ≤ p.2)) || (edgesOf p.1).contains j || oj.apart ops p.1)
    | none => false)

section
variable {C : Ctx} {fr : Fr} {L : LL}
theorem edges_ltL {ops : Array Oper} {m : Nat} {late : List Nat} (hok : drawOkL ops m late = true) {i : Nat} {o : Oper} (ho : ops[i]? = some o) : (∀ j ∈ edgesOf o, j < i) ∧ (∀ j b, o.guard = some (j, b) → j ∈ edgesOf o) ∧ (i < m → o.dst.isSome = true) ∧ (m = i → ∀ j, j < m → j ∈ edgesOf o ∨ j ∈ late ∨ ∃ k ok, k < m ∧ k ∉ late ∧ ops[k]? = some ok ∧ j ∈ edgesOf ok) ∧ (m < i → i - 1 ∈ edgesOf o) := by
  unfold drawOkL at hok
  simp only [Bool.and_eq_true] at hok
  obtain ⟨⟨⟨⟨h0, hall⟩, hn⟩, hns⟩, hl⟩ := hok
  have hmem : (o, i) ∈ ops.toList.zipIdx := by
    rw [List.mem_iff_getElem?]
    exact ⟨i, by simp [ho]⟩
  have h := List.all_eq_true.1 hall _ hmem
  simp only [Bool.and_eq_true] at h
  obtain ⟨⟨h1, h2⟩, h3⟩ := h
  refine ⟨fun j hj => by simpa using List.all_eq_true.1 h1 j hj, fun j b hg => ?_, fun hi => ?_, fun hi j hj => ?_, fun hi => ?_⟩
  · rw [hg] at h2; simpa using h2
  · rw [if_pos hi] at h3; exact h3
  · rw [if_neg (by omega), if_pos hi.symm] at h3
    have := List.all_eq_true.1 h3 j (by simpa using hj)
    simp only [Bool.or_eq_true, List.contains_eq_mem, decide_eq_true_eq] at this
    rcases this with h | h5
    · exact .inl h
    · refine .inr ?_
      unfold heldL at h5
      simp only [Bool.or_eq_true, List.contains_eq_mem, decide_eq_true_eq] at h5
      rcases h5 with h5 | h5
      · exact .inl h5
      · obtain ⟨k, hk1, hk2⟩ := List.any_eq_true.1 h5
        simp only [Bool.and_eq_true, Bool.not_eq_true', decide_eq_false_iff_not] at hk2
        obtain ⟨hk2, hk3⟩ := hk2
        split at hk3
        · rename_i ok hok
          exact .inr ⟨k, ok, by simpa using hk1, hk2, hok, by simpa using hk3⟩
        · cases hk3
  · rw [if_neg (by omega), if_neg (by omega)] at h3
    simpa using h3

/-- the tail: one operation behind the other -/
theorem draw_tailL {ops : Array Oper} {m : Nat} {orcs : List (Nat × Orc)} {Q : Exit → Act → World → Prop} (hok : ∀ i o, ops[i]? = some o → (∀ j ∈ edgesOf o, j < i) ∧ (m < i → i - 1 ∈ edgesOf o)) (hd : dstOk C.n ops = true) :
    ∀ (r : Nat) (k : Nat) (fr : Fr) (L : LL) (fr' : Fr) (L' : LL) (obs : List Prop) (listed : Array Bool) (a : Act) (w : World), ops.size = k + r → m ≤ k → listed.size = ops.size → (∀ i, i < ops.size → listed.getD i false = decide (i < k)) →
      Rel C fr L a w → run C.P ops orcs k (ops.toList.drop k) fr L = some (fr', L', obs) → AllP obs → (∀ a' w', Rel C fr' L' a' w' → Q .normal a' w') → ∀ fuel, r ≤ fuel → wpAny C.P .any ops Q fuel listed a w
  | 0, k, fr, L, fr', L', obs, listed, a, w, hk, hm, hls, hl, hr, hrun, ho, hq, fuel, _ => by
    rw [List.drop_eq_nil_of_le (by simp; omega)] at hrun
    simp only [run, Option.some.injEq, Prod.mk.injEq] at hrun
    obtain ⟨rfl, rfl, _⟩ := hrun
    have hre : Region.ready .any ops listed = [] := by
      apply List.eq_nil_iff_forall_not_mem.2
      intro i hi
      obtain ⟨h1, h2, _⟩ := mem_ready'.1 hi
      have := hl i h1
      rw [Array.getD_eq_getD_getElem?, Array.getElem?_eq_getElem (by omega)] at this h2
      simp only [Option.getD_some] at this h2
      rw [h2] at this
      have := of_decide_eq_false this.symm
      omega
    cases fuel with
    | zero => exact ⟨hre, hq a w hr⟩
    | succ fuel => exact ⟨fun _ => hq a w hr, fun i hi => by rw [hre] at hi; cases hi⟩
  | r + 1, k, fr, L, fr', L', obs, listed, a, w, hk, hm, hls, hl, hr, hrun, ho, hq, fuel + 1, hf => by
    have hklt : k < ops.size := by omega
    have hgk : ops[k]? = some ops[k] := Array.getElem?_eq_getElem hklt
    have hdrop : ops.toList.drop k = ops[k] :: ops.toList.drop (k + 1) := by
      rw [← List.getElem_cons_drop (by simpa using hklt)]; simp
    rw [hdrop, run] at hrun
    split at hrun
    · rename_i fr1 L1 p hstep
      split at hrun
      · rename_i fr2 L2 q hrun2
        simp only [Option.some.injEq, Prod.mk.injEq] at hrun
        obtain ⟨rfl, rfl, rfl⟩ := hrun
        obtain ⟨hp, hq'⟩ := ho.append
        obtain ⟨h, ρ, hrel⟩ := hr
        have hdst : ∀ d, ops[k].dst = some d → d < C.n := by
          intro d hdd
          have := List.all_eq_true.1 hd ops[k] (by simp)
          rw [hdd] at this
          simpa using this
        have hdoes := step_sound hrel hdst hstep hp
        have hkready : k ∈ Region.ready .any ops listed := by
          refine mem_ready'.2 ⟨hklt, ?_, _, hgk, fun j hj => ?_⟩
          · have := hl k hklt
            rw [Array.getD_eq_getD_getElem?, Array.getElem?_eq_getElem (by omega)] at this ⊢
            simpa using this
          · have hjk := (hok _ _ hgk).1 j hj
            rw [hl j (by omega)]; simpa using hjk
        refine ⟨fun he => by (rw [he] at hkready; exact absurd hkready (by simp)), fun i hi => ?_⟩
        obtain ⟨h1, h2, o, ho1, ho2⟩ := mem_ready'.1 hi
        have hik : i = k := by
          have hge : k ≤ i := by
            have := hl i h1
            rw [Array.getD_eq_getD_getElem?, Array.getElem?_eq_getElem (by omega)] at this h2
            simp only [Option.getD_some] at this h2
            rw [h2] at this
            have := of_decide_eq_false this.symm
            omega
          rcases Nat.eq_or_lt_of_le hge with h3 | h3
          · exact h3.symm
          · have := ho2 (i - 1) ((hok _ _ ho1).2 (by omega))
            rw [hl (i - 1) (by omega)] at this
            have := of_decide_eq_true this
            omega
        subst hik
        unfold wpOp
        rw [hgk]
        have hK := hdoes Q (wpAny C.P .any ops Q fuel (listed.setIfInBounds i true)) (fun a' w' hrel' =>
          draw_tailL hok hd r (i + 1) fr1 L1 _ _ q (listed.setIfInBounds i true) a' w' (by omega) (by omega) (by simp [hls]) (fun j hj => by
            rw [Array.getD_eq_getD_getElem?, Array.getElem?_setIfInBounds]
            by_cases hij : i = j
            · subst hij; simp [hls, hj]
            · rw [if_neg hij]
              have := hl j hj
              rw [Array.getD_eq_getD_getElem?] at this
              rw [this]
              congr 1
              exact propext ⟨fun h => by omega, fun h => by omega⟩) hrel' hrun2 hq' hq fuel (by omega))
        simp only
        by_cases hw : Region.wanted ops[i] (yielded ops a.tmps) = true
        · rw [if_pos hw] at hK ⊢; exact .inl hK
        · rw [if_neg hw] at hK ⊢; exact hK
      · simp at hrun
    · simp at hrun


/-- what 'late' operations give -/
theorem late_yields {P : Program} {ops : Array Oper} {o : Oper} {a : Act} {w : World} {K : Act → World → Prop} {Q : Exit → Act → World → Prop} {i : Nat} (hi : ops[i]? = some o) (hl : latePure o = true) (hw : wpOp P ops Q i K a w) (hnQ : ∀ c a w, ¬ Q (.panic c) a w) (hno : ¬ LetsOut Q) :
    ∃ v, Yields P ops o v a ∧ K (a.put o.dst v) w := by
  unfold latePure at hl
  simp only [Bool.and_eq_true, Option.isNone_iff_eq_none] at hl
  obtain ⟨hg, hop⟩ := hl
  have hwant : Region.wanted o (yielded ops a.tmps) = true := by simp [Region.wanted, hg]
  unfold wpOp at hw
  rw [hi] at hw
  simp only [hwant, if_true] at hw
  have hw2 : o.wp P a w K Q := by
    rcases hw with h | ⟨_, h⟩
    · exact h
    · exact (hno h).elim
  have val : ∀ v, (∀ w, (execOp a.eval o).run P w = .ok (.value v) w) → ∃ v, Yields P ops o v a ∧ K (a.put o.dst v) w := by
    intro v hv
    refine ⟨v, .inl ⟨hwant, hv⟩, ?_⟩
    unfold Oper.wp at hw2
    rw [hv w, Oper.upon_value] at hw2
    exact hw2
  split at hop
  · rename_i x hx
    exact val (a.eval x) (fun w => by simp only [execOp, hx, Sem.run_pure])
  · rename_i x hx
    exact val (a.eval x) (fun w => by simp only [execOp, hx, Sem.run_pure])
  · rename_i x k hx
    have hx1 : ∀ w, (execOp a.eval o).run P w = ((Instr.extract (a.eval x) k).run P w).andThen fun v w => .ok (.value v) w := fun w => by
      simp only [execOp, hx, Sem.run_bind]; rfl
    have hw3 := hw2
    unfold Oper.wp at hw3
    rw [hx1 w] at hw3
    unfold Instr.extract at hx1 hw3
    split at hw3
    · rename_i vs hvs
      split at hw3
      · rename_i v hv
        refine val v (fun w => ?_)
        rw [hx1 w]
        simp only [hvs, hv, Sem.run_pure]; rfl
      · exact absurd hw3 (by simp [stuck, Oper.upon])
    · exact absurd hw3 (by simp [stuck, Oper.upon])
  · cases hop

theorem drawOkL_parts {ops : Array Oper} {m : Nat} {late : List Nat} (hok : drawOkL ops m late = true) : m ≤ ops.size ∧ ((ops.toList.take m).filterMap (·.dst)).Nodup ∧ Region.noSelect ops = true ∧
    (∀ i oi, i ∈ late → ops[i]? = some oi → latePure oi = true ∧ ∀ j oj, ops[j]? = some oj → j ≠ i → (j ∈ late ∨ m ≤ j) → i ∉ edgesOf oj → oi.apart ops oj = true) := by
  unfold drawOkL at hok
  simp only [Bool.and_eq_true, decide_eq_true_eq] at hok
  obtain ⟨⟨⟨⟨h0, hall⟩, hn⟩, hns⟩, hl⟩ := hok
  refine ⟨h0, hn, hns, fun i oi hi hoi => ?_⟩
  have := List.all_eq_true.1 hl i hi
  rw [hoi] at this
  simp only [Bool.and_eq_true] at this
  refine ⟨this.1, fun j oj hj hji hjm hno => ?_⟩
  have h2 := List.all_eq_true.1 this.2 (oj, j) (by
    rw [List.mem_iff_getElem?]
    exact ⟨j, by simp [hj]⟩)
  simp only [Bool.or_eq_true, beq_iff_eq, Bool.not_eq_true', Bool.or_eq_false_iff, List.contains_eq_mem, decide_eq_true_eq, decide_eq_false_iff_not] at h2
  rcases h2 with ((h2 | h2) | h2) | h2
  · exact (hji h2).elim
  · rcases hjm with h3 | h3
    · exact (h2.1 h3).elim
    · exact (h2.2 h3).elim
  · exact (hno h2).elim
  · exact h2

/-- what is left of a way out where nothing panics and no room is lacking -/
def Qn (C : Ctx) (Q : Post) : Exit → Act → World → Prop := fun e a w => (∀ c, e ≠ .panic c) ∧ e ≠ .outgrown ∧ lift C Q e a w

theorem W_drawL {B : Code} {p : List Nat} {Q : Post} {fr' : Fr} {L' : LL} (m : Nat) (late : List Nat) (orcs : List (Nat × Orc)) (kF kL : List Nat) {out : List (Nat × AV)} {obs2 : List Prop} (hdr : isDraw (nav B p) = true)
    (hm : C.P.follows .mixedOrders = true) (hok : (drawOkL (opsOf (nav B p)) m late && dstOk C.n (opsOf (nav B p)) && once fr) = true) (houtlen : out.length = m)
    (hent0 : ∀ i o, i < m → (opsOf (nav B p))[i]? = some o → ∃ d av, o.dst = some d ∧ out[i]? = some (d, av) ∧ Drawn C (opsOf (nav B p)) i d av (pick (out.take i) (edgesOf o) ++ baseFr (opsOf (nav B p)) m fr) L ∧
      (∀ g b x, av = .mb g b x → ∃ j, o.guard = some (j, b) ∧ guardSlot (opsOf (nav B p)) j = some g))
    (htail : (match run C.P (opsOf (nav B p)) orcs m ((opsOf (nav B p)).toList.drop m) (out ++ baseFr (opsOf (nav B p)) m fr) L with | some (f, l, ob) => (restr kF kL f l).map fun r => (r.1, r.2, ob) | none => none) = some (fr', L', obs2)) (ho2 : AllP obs2)
    (hn : Q .normal fr' L') : W C (nav B p) Q fr L := by
  simp only [Bool.and_eq_true] at hok
  obtain ⟨⟨hok, hdok⟩, honce⟩ := hok
  generalize hops : opsOf (nav B p) = ops at *
  intro a w hr
  cases hc : nav B p <;> simp only [hc, isDraw, Bool.false_eq_true] at hdr
  rename_i id ops' d
  rw [hc] at hops
  simp only [opsOf] at hops
  subst hops hdr
  split at htail
  · rename_i f l ob hrun
    obtain ⟨⟨f', l'⟩, hre, hee⟩ := Option.map_eq_some_iff.1 htail
    simp only [Prod.mk.injEq] at hee
    obtain ⟨rfl, rfl, rfl⟩ := hee
    obtain ⟨hmle, hnodup, hnosel, hlate⟩ := drawOkL_parts hok
    have htailok : ∀ i o, ops'[i]? = some o → (∀ j ∈ edgesOf o, j < i) ∧ (m < i → i - 1 ∈ edgesOf o) := fun i o ho => by
      obtain ⟨q1, _, _, _, q4⟩ := edges_ltL hok ho
      exact ⟨q1, q4⟩
    have hent : ∀ i o, i < m → ops'[i]? = some o → ∃ d av, o.dst = some d ∧ out[i]? = some (d, av) ∧ Drawn C ops' i d av (pick (out.take i) (edgesOf o) ++ baseFr ops' m fr) L ∧
      (∀ g b x, av = .mb g b x → ∃ j, o.guard = some (j, b) ∧ guardSlot ops' j = some g) := hent0
    -- two quiet operations write two slots
    have hdist : ∀ i j d av av', i < m → j < m → out[i]? = some (d, av) → out[j]? = some (d, av') → i = j := by
      intro i j d av av' hi hj h1 h2
      have key : ∀ k, k < m → ∃ o, ops'[k]? = some o ∧ ∃ d av, o.dst = some d ∧ out[k]? = some (d, av) := by
        intro k hk
        refine ⟨ops'[k], Array.getElem?_eq_getElem (by omega), ?_⟩
        obtain ⟨d, av, h1, h2, _⟩ := hent k _ hk (Array.getElem?_eq_getElem (by omega))
        exact ⟨d, av, h1, h2⟩
      have hds : (ops'.toList.take m).filterMap (·.dst) = out.map (·.1) := by
        apply List.ext_getElem?
        intro k
        have hall : ∀ o ∈ ops'.toList.take m, o.dst.isSome = true := by
          intro o ho
          obtain ⟨k, hk, rfl⟩ := List.getElem_of_mem ho
          have hkm : k < m := by simp at hk; omega
          obtain ⟨o', ho', d, av, hd, _⟩ := key k hkm
          have : ops'[k]? = some ops'[k] := Array.getElem?_eq_getElem (by omega)
          rw [this] at ho'
          obtain rfl := Option.some.inj ho'
          simp [hd]
        have hfm : ∀ (l : List Oper), (∀ o ∈ l, o.dst.isSome = true) → l.filterMap (·.dst) = l.map fun o => o.dst.getD 0 := by
          intro l
          induction l with
          | nil => intro _; rfl
          | cons o l ih =>
            intro hl
            have := hl o (by simp)
            cases hod : o.dst with
            | none => rw [hod] at this; simp at this
            | some d => simp [hod, ih (fun x hx => hl x (by simp [hx]))]
        rw [hfm _ hall]
        by_cases hk : k < m
        · obtain ⟨o', ho', d, av, hd, hout⟩ := key k hk
          simp [List.getElem?_take_of_lt hk, ho', hd, hout]
        · rw [List.getElem?_eq_none (by simp; omega), List.getElem?_eq_none (by simp; omega)]
      rw [hds] at hnodup
      have hi' : i < (out.map (·.1)).length := by simp; omega
      have hj' : j < (out.map (·.1)).length := by simp; omega
      have e1 : (out.map (·.1))[i] = d := by
        have : (out.map (·.1))[i]? = some d := by simp [h1]
        rw [List.getElem?_eq_getElem hi'] at this
        exact Option.some.inj this
      have e2 : (out.map (·.1))[j] = d := by
        have : (out.map (·.1))[j]? = some d := by simp [h2]
        rw [List.getElem?_eq_getElem hj'] at this
        exact Option.some.inj this
      exact (List.getElem_inj hnodup).1 (e1.trans e2.symm)
    have hdstin : ∀ i d av, i < m → out[i]? = some (d, av) → d ∈ (ops'.toList.take m).filterMap (·.dst) := by
      intro i d av hi h1
      obtain ⟨d', av', h2, h3, _⟩ := hent i ops'[i] hi (Array.getElem?_eq_getElem (by omega))
      rw [h1] at h3
      simp only [Option.some.injEq, Prod.mk.injEq] at h3
      obtain ⟨rfl, rfl⟩ := h3
      refine List.mem_filterMap.2 ⟨ops'[i], ?_, h2⟩
      rw [List.mem_iff_getElem?]
      exact ⟨i, by rw [List.getElem?_take_of_lt hi]; simp⟩
    -- the quiet phase
    have quiet : ∀ (fuel : Nat) (listed : Array Bool) (a : Act) (w : World), listed.size = ops'.size → (∀ i, m ≤ i → i < ops'.size → listed.getD i false = false) →
        (∀ i o, i < m → ops'[i]? = some o → listed.getD i false = true → ∀ j ∈ edgesOf o, listed.getD j false = true) →
        (∃ h ρ, Half C m (baseFr ops' m fr) L out listed h ρ a w) → ops'.size ≤ fuel + ((List.range ops'.size).filter fun i => listed.getD i false).length → wpAny C.P .any ops' (Qn C Q) fuel listed a w := by
      intro fuel
      induction fuel with
      | zero =>
        intro listed a w hls htl hdc ⟨h, ρ, hhalf⟩ hcount
        -- all is listed
        have hall : ∀ i, i < ops'.size → listed.getD i false = true := by
          intro i hi
          have hlen : ((List.range ops'.size).filter fun i => listed.getD i false).length = (List.range ops'.size).length := by
            have := List.length_filter_le (fun i => listed.getD i false) (List.range ops'.size)
            simp at this hcount ⊢; omega
          have := List.length_filter_eq_length_iff.1 hlen i (by simpa using hi)
          simpa using this
        have hms : m = ops'.size := by
          rcases Nat.lt_or_ge m ops'.size with hlt | hge
          · have := htl m (Nat.le_refl _) hlt; rw [hall m hlt] at this; cases this
          · omega
        have hrelF := hhalf.frame out (fun x hx => by
          obtain ⟨j, hj, rfl⟩ := List.getElem_of_mem hx
          exact ⟨j, by omega, hall j (by omega), List.getElem?_eq_getElem hj⟩)
        exact draw_tailL htailok hdok 0 m _ L f l ob listed a w (by omega) (Nat.le_refl _) hls (fun i hi => by rw [hall i hi]; symm; exact decide_eq_true (by omega)) ⟨h, ρ, hrelF⟩ hrun ho2
          (fun a' w' hr' => ⟨fun _ => by simp, by simp, f', l', hr'.keep (restr_spec hre).1 (restr_spec hre).2, hn⟩) 0 (Nat.le_refl _)
      | succ fuel ih =>
        intro listed a w hls htl hdc ⟨h, ρ, hhalf⟩ hcount
        by_cases hdone : ∀ i, i < m → listed.getD i false = true
        · -- over to the tail
          have hrelF := hhalf.frame out (fun x hx => by
            obtain ⟨j, hj, rfl⟩ := List.getElem_of_mem hx
            exact ⟨j, by omega, hdone j (by omega), List.getElem?_eq_getElem hj⟩)
          have hlk : ∀ i, i < ops'.size → listed.getD i false = decide (i < m) := by
            intro i hi
            by_cases him : i < m
            · rw [hdone i him]; simp [him]
            · rw [htl i (by omega) hi]; simp [him]
          have hcnt : ((List.range ops'.size).filter fun i => listed.getD i false).length ≤ m := by
            have h1 : (List.range ops'.size).filter (fun i => listed.getD i false) = (List.range ops'.size).filter (fun i => decide (i < m)) := by
              apply List.filter_congr
              intro i hi
              exact hlk i (by simpa using hi)
            rw [h1]
            have h2 : (List.range ops'.size).filter (fun i => decide (i < m)) = List.range m := by
              have : ops'.size = m + (ops'.size - m) := by omega
              rw [this, List.range_add, List.filter_append]
              have e1 : (List.range m).filter (fun i => decide (i < m)) = List.range m := List.filter_eq_self.2 (by simp)
              have e2 : ((List.range (ops'.size - m)).map (m + ·)).filter (fun i => decide (i < m)) = [] := List.filter_eq_nil_iff.2 (by simp)
              rw [e1, e2]; simp
            rw [h2]; simp
          exact draw_tailL htailok hdok (ops'.size - m) m _ L f l ob listed a w (by omega) (Nat.le_refl _) hls hlk ⟨h, ρ, hrelF⟩ hrun ho2
            (fun a' w' hr' => ⟨fun _ => by simp, by simp, f', l', hr'.keep (restr_spec hre).1 (restr_spec hre).2, hn⟩) (fuel + 1) (by omega)
        · -- some quiet operation is still to come
          obtain ⟨i0, hi0, hi0l⟩ : ∃ i, i < m ∧ listed.getD i false = false := by
            simp only [Classical.not_forall, Bool.not_eq_true] at hdone
            obtain ⟨i, hi, hil⟩ := hdone; exact ⟨i, hi, hil⟩
          have gd : ∀ i b, i < ops'.size → listed.getD i b = listed.getD i false := by
            intro i b hi
            rw [Array.getD_eq_getD_getElem?, Array.getD_eq_getD_getElem?, Array.getElem?_eq_getElem (by omega)]; rfl
          have hnonempty : Region.ready .any ops' listed ≠ [] := by
            -- the least one that is not listed
            have hex : ∃ i, i < ops'.size ∧ listed.getD i false = false ∧ ∀ j, j < i → listed.getD j false = true := by
              obtain ⟨k, ⟨hk1, hk2⟩, hk3⟩ := least_of (p := fun i => i < ops'.size ∧ listed.getD i false = false) i0 ⟨by omega, hi0l⟩
              refine ⟨k, hk1, hk2, fun j hj => ?_⟩
              have := hk3 j hj
              cases hq : listed.getD j false with
              | true => rfl
              | false => exact (this ⟨by omega, hq⟩).elim
            obtain ⟨k, hk1, hk2, hk3⟩ := hex
            intro hempty
            have : k ∈ Region.ready .any ops' listed := mem_ready'.2 ⟨hk1, by rw [gd k _ hk1]; exact hk2, ops'[k], Array.getElem?_eq_getElem hk1, fun j hj => hk3 j ((edges_ltL hok (Array.getElem?_eq_getElem hk1)).1 j hj)⟩
            rw [hempty] at this; cases this
          have one : ∀ i, i ∈ Region.ready .any ops' listed → i < m → wpOp C.P ops' (Qn C Q) i (wpAny C.P .any ops' (Qn C Q) fuel (listed.setIfInBounds i true)) a w := by
           intro i hi him
           obtain ⟨h1, h2, o, ho1, ho2'⟩ := mem_ready'.1 hi
           rw [gd i _ h1] at h2
           obtain ⟨d, av, hd1, hout, hdrawn, _⟩ := hent i o him ho1
           have hdn : d < C.n := by
             have := List.all_eq_true.1 hdok o (by simpa using Array.mem_of_getElem? ho1)
             rw [hd1] at this; simpa using this
           -- the frame of those that it waits for
           have hrelI := hhalf.frame (pick (out.take i) (edgesOf o)) (fun x hx => by
             obtain ⟨j, hj, hxj⟩ := mem_pick _ _ _ hx
             have hjlt := (edges_ltL hok ho1).1 j hj
             rw [List.getElem?_take_of_lt hjlt] at hxj
             exact ⟨j, by omega, ho2' j hj, hxj⟩)
           -- what becomes of it
           have next : ∀ (h' : Heap) (v : Value) (w' : World), Ext h h' → (∀ frx, RelH C h ρ frx L a w → RelH C h' ρ frx L a w') → VRel h' ρ (a.tmps.setIfInBounds d v) av v → wpAny C.P .any ops' (Qn C Q) fuel (listed.setIfInBounds i true) (a.put (some d) v) w' := by
             intro h' v w' hext hlift hv
             refine ih (listed.setIfInBounds i true) _ w' (by simp [hls]) ?_ ?_ ?_ ?_
             · intro k hk hk2
               rw [Array.getD_eq_getD_getElem?, Array.getElem?_setIfInBounds, if_neg (by omega), ← Array.getD_eq_getD_getElem?]
               exact htl k hk hk2
             · intro k ok hk hok' hkl j hj
               have old : listed.getD j false = true → (listed.setIfInBounds i true).getD j false = true := by
                 intro hjl
                 rw [Array.getD_eq_getD_getElem?, Array.getElem?_setIfInBounds]
                 split
                 · rename_i hij; subst hij; simp [hls, h1]
                 · rw [← Array.getD_eq_getD_getElem?]; exact hjl
               by_cases hik : i = k
               · subst hik
                 rw [ho1] at hok'
                 obtain rfl := Option.some.inj hok'
                 exact old (ho2' j hj)
               · rw [Array.getD_eq_getD_getElem?, Array.getElem?_setIfInBounds, if_neg hik, ← Array.getD_eq_getD_getElem?] at hkl
                 exact old (hdc k ok hk hok' hkl j hj)
             · refine ⟨h', ρ, ?_, ?_⟩
               · refine { (hlift _ hhalf.rel) with size := by simp [Act.put, hhalf.rel.size], defers := hhalf.rel.defers, fr := fun t x hx => ?_ }
                 obtain ⟨hb1, hb2⟩ := base_spec hx
                 obtain ⟨h3, h4⟩ := (hlift _ hhalf.rel).fr t x hx
                 have hne : d ≠ t := by
                   rintro rfl
                   exact hb1 (hdstin i d av him hout)
                 refine ⟨h3, ?_⟩
                 have : (a.put (some d) v).tmps.getD t undef = a.tmps.getD t undef := by
                   simp [Act.put, Array.getD_eq_getD_getElem?, Array.getElem?_setIfInBounds, hne]
                 rw [this]
                 exact h4.anyTm hb2
               · intro k dk avk hk hkl hko
                 by_cases hik : i = k
                 · subst hik
                   rw [hout] at hko
                   simp only [Option.some.injEq, Prod.mk.injEq] at hko
                   obtain ⟨rfl, rfl⟩ := hko
                   refine ⟨hdn, ?_⟩
                   have : (a.put (some d) v).tmps.getD d undef = v := by simp [Act.put, hhalf.rel.size, hdn]
                   rw [this]; exact hv
                 · rw [Array.getD_eq_getD_getElem?, Array.getElem?_setIfInBounds, if_neg hik, ← Array.getD_eq_getD_getElem?] at hkl
                   obtain ⟨h3, h40⟩ := hhalf.done k dk avk hk hkl hko
                   have h4 := h40.mono hext
                   have hne : d ≠ dk := by
                     rintro rfl
                     exact hik (hdist i k d av avk him hk hout hko)
                   refine ⟨h3, ?_⟩
                   have : (a.put (some d) v).tmps.getD dk undef = a.tmps.getD dk undef := by
                     simp [Act.put, Array.getD_eq_getD_getElem?, Array.getElem?_setIfInBounds, hne]
                   rw [this]
                   cases avk with
                   | mb g b x =>
                     intro ht
                     refine h4 ?_
                     -- the slot that it looks at was written before
                     obtain ⟨dk', avk', e1, e2, _, e4⟩ := hent k ops'[k] hk (Array.getElem?_eq_getElem (by omega))
                     rw [hko] at e2
                     simp only [Option.some.injEq, Prod.mk.injEq] at e2
                     obtain ⟨rfl, rfl⟩ := e2
                     obtain ⟨j, hgd, hgs⟩ := e4 g b x rfl
                     have hjE := (edges_ltL hok (Array.getElem?_eq_getElem (show k < ops'.size by omega))).2.1 j b hgd
                     have hjl := hdc k ops'[k] hk (Array.getElem?_eq_getElem (by omega)) hkl j hjE
                     have hjlt := (edges_ltL hok (Array.getElem?_eq_getElem (show k < ops'.size by omega))).1 j hjE
                     have hgd' : d ≠ g := by
                       intro hdg0
                       unfold guardSlot at hgs
                       obtain ⟨oj, hoj, hdj⟩ := Option.bind_eq_some_iff.1 hgs
                       obtain ⟨dj, avj, f1, f2, _⟩ := hent j oj (by omega) hoj
                       rw [hdj, ← hdg0] at f1
                       rw [← Option.some.inj f1] at f2
                       have := hdist i j d av avj him (by omega) hout f2
                       subst this
                       rw [h2] at hjl; cases hjl
                     have : (a.put (some d) v).tmps[g]? = a.tmps[g]? := by
                       simp [Act.put, Array.getElem?_setIfInBounds, hgd']
                     rw [this] at ht; exact ht
                   | _ => exact h4
             · have : ((List.range ops'.size).filter fun k => (listed.setIfInBounds i true).getD k false).length = ((List.range ops'.size).filter fun k => listed.getD k false).length + 1 := by
                 have hset : ∀ k, k < ops'.size → (listed.setIfInBounds i true).getD k false = (decide (k = i) || listed.getD k false) := by
                   intro k hk
                   rw [Array.getD_eq_getD_getElem?, Array.getElem?_setIfInBounds]
                   by_cases hik : i = k
                   · subst hik; simp [hls, h1]
                   · rw [if_neg hik, ← Array.getD_eq_getD_getElem?]; simp [Ne.symm hik]
                 rw [List.filter_congr (q := fun k => decide (k = i) || listed.getD k false) (fun k hk => hset k (by simpa using hk))]
                 exact count_one ops'.size i (fun k => listed.getD k false) h1 h2
               rw [this]; omega
           exact hdrawn h ρ a w hrelI _ _ (fun h' v w' e1 e2 e3 => next h' v w' e1 (fun frx => e2 frx L (fun _ _ e => e)) e3)
          by_cases hl8 : ∀ i, i < m → listed.getD i false = false → i ∈ late
          · obtain ⟨k, ⟨hk1, hk2⟩, hk3⟩ := least_of (p := fun i => i < m ∧ listed.getD i false = false) i0 ⟨hi0, hi0l⟩
            have hk3' : ∀ j, j < k → listed.getD j false = true := by
              intro j hj
              have := hk3 j hj
              cases hq : listed.getD j false with
              | true => rfl
              | false => exact (this ⟨by omega, hq⟩).elim
            have hkop : ops'[k]? = some ops'[k] := Array.getElem?_eq_getElem (by omega)
            have hkr : k ∈ Region.ready .any ops' listed := mem_ready'.2 ⟨by omega, by rw [gd k _ (by omega)]; exact hk2, ops'[k], hkop, fun j hj => hk3' j ((edges_ltL hok hkop).1 j hj)⟩
            obtain ⟨hlp, hap⟩ := hlate k ops'[k] (hl8 k hk1 hk2) hkop
            obtain ⟨v, hy, hK⟩ := late_yields hkop hlp (one k hkr hk1) (fun c a w hh => hh.1 c rfl) (fun ⟨_, _, hh⟩ => hh.2.1 rfl)
            refine wpAny_first hkop (Region.noSelect_spec hnosel) (fun c a w hh => (hh.1 c rfl).elim) fuel listed a w (fun j oj hj hjk hjl hno => ?_) hkr hy hK
            have hjs := (Array.getElem?_eq_some_iff.1 hj).1
            rw [gd j _ hjs] at hjl
            refine hap j oj hj hjk ?_ (fun hme => ?_)
            · rcases Nat.lt_or_ge j m with h3 | h3
              · exact .inl (hl8 j h3 hjl)
              · exact .inr h3
            · obtain ⟨e, he, hee⟩ := List.mem_map.1 hme
              obtain ⟨he1, he2⟩ := List.mem_filter.1 he
              exact hno e (by simpa using he1) he2 hee
          · obtain ⟨i1, hi1, hi1l, hi1n⟩ : ∃ i, i < m ∧ listed.getD i false = false ∧ i ∉ late := by
              simp only [Classical.not_forall] at hl8
              obtain ⟨i, x1, x2, x3⟩ := hl8; exact ⟨i, x1, x2, x3⟩
            refine ⟨fun e => (hnonempty e).elim, fun i hi => ?_⟩
            obtain ⟨h1, h2, o, ho1, ho2'⟩ := mem_ready'.1 hi
            refine one i hi ?_
            rcases Nat.lt_or_ge i m with h3 | h3
            · exact h3
            · exfalso
              have h3m : m = i := by
                rcases Nat.lt_or_ge m i with h4 | h4
                · have := ho2' (i - 1) ((edges_ltL hok ho1).2.2.2.2 h4)
                  rw [htl (i - 1) (by omega) (by omega)] at this; cases this
                · omega
              have all : ∀ d j, m - j ≤ d → j < m → j ∉ late → listed.getD j false = true := by
                intro d
                induction d with
                | zero => intro j h4 h5; omega
                | succ d ihd =>
                  intro j h4 h5 h6
                  rcases (edges_ltL hok ho1).2.2.2.1 h3m j (by omega) with h7 | h7 | ⟨k, ok, k1, k2, k3, k4⟩
                  · exact ho2' j h7
                  · exact (h6 h7).elim
                  · have := (edges_ltL hok k3).1 j k4
                    exact hdc k ok k1 k3 (ihd k (by omega) k1 k2) j k4
              have := all m i1 (by omega) hi1 hi1n
              rw [hi1l] at this; cases this
    refine wp_mono (Q := Qn C Q) (wp_region_any hm (quiet ops'.size _ a _ (by simp) (fun i _ hi => by simp [Array.getD_eq_getD_getElem?, hi]) (fun i o hi ho hl => ?_) ?_ (by omega))) (fun e a w hh => hh.2.2)
    · rw [Array.getD_eq_getD_getElem?] at hl
      simp [show i < ops'.size by omega] at hl
    · obtain ⟨h, ρ, hr'⟩ := hr.drawn
      refine ⟨h, ρ, { hr' with fr := base_get (fun p hp => hr'.fr p.1 p.2 (once_get honce hp)) }, fun i d av hi hl => ?_⟩
      rw [Array.getD_eq_getD_getElem?] at hl
      simp [show i < ops'.size by omega] at hl
  · simp at htail

theorem W_draw3 {B : Code} {p : List Nat} {Q : Post} {fr' : Fr} {L' : LL} (m : Nat) (late : List Nat) (orcs : List (Nat × Orc)) (cs : List (Nat × List (Option Ty) × AV)) (kF kL : List Nat) {out : List (Nat × AV)} {obs obs2 : List Prop} {calls : List (Nat × List AV × AV)} (hdr : isDraw (nav B p) = true)
    (hm : C.P.follows .mixedOrders = true) (hok : (drawOkL (opsOf (nav B p)) m late && dstOk C.n (opsOf (nav B p)) && once fr) = true)
    (he : ents2 C.P (opsOf (nav B p)) (baseFr (opsOf (nav B p)) m fr) L orcs cs 0 ((opsOf (nav B p)).toList.take m) [] = some (out, obs, calls)) (ho : AllP obs) (hc : AllC C.P calls)
    (htail : (match run C.P (opsOf (nav B p)) orcs m ((opsOf (nav B p)).toList.drop m) (out ++ baseFr (opsOf (nav B p)) m fr) L with | some (f, l, ob) => (restr kF kL f l).map fun r => (r.1, r.2, ob) | none => none) = some (fr', L', obs2)) (ho2 : AllP obs2)
    (hn : Q .normal fr' L') : W C (nav B p) Q fr L := by
  obtain ⟨h1, _, h3⟩ := ents2_spec _ 0 [] out obs calls rfl he ho hc (fun k o hk => by
    rw [Nat.zero_add]
    have : k < m := by
      have := (List.getElem?_eq_some_iff.1 hk).1
      simp at this; omega
    rw [List.getElem?_take_of_lt this] at hk
    simpa using hk)
  have hmle : m ≤ (opsOf (nav B p)).size := by
    simp only [Bool.and_eq_true] at hok
    exact (drawOkL_parts hok.1.1).1
  refine W_drawL m late orcs kF kL hdr hm hok (by rw [h1]; simp; omega) (fun i o hi hoi => ?_) htail ho2 hn
  have := h3 i o (by rw [List.getElem?_take_of_lt hi]; simpa using hoi)
  simpa using this
end
end Go.Sl

/- Calls in drawn regions that are handed objects which they leave as they are (captured variables). -/
namespace Go.Sl
open Go
section
variable {C : Ctx} {h : Heap} {ρ : Nat → Value} {fr : Fr} {L : LL} {a : Act} {w : World}
theorem RelH.less {L' : LL} (hr : RelH C h ρ fr L' a w) (hs : ∀ s o, get L s = some o → get L' s = some o) : RelH C h ρ fr L a w :=
  { hr with
    objs := fun s o e => hr.objs s o (hs s o e)
    apart := fun s s' o o' b hne e e' => hr.apart s s' o o' b hne (hs s o e) (hs s' o' e')
    low := fun s o b e => hr.low s o b (hs s o e) }
theorem putAll_same {σ : List (Nat × Nat)} : ∀ {Lin : LL}, (∀ c o, (c, o) ∈ Lin → get L (sig σ c) = some (o.ren (sig σ))) → ∀ s o, get L s = some o → get (putAll σ Lin L) s = some o
  | [], _, s, o, e => e
  | (c, p) :: r, hL, s, o, e => by
    rw [putAll, get_put]
    by_cases hc : sig σ c = s
    · rw [if_pos hc]
      have := hL c p (by simp)
      rw [hc, e] at this
      exact this.symm
    · rw [if_neg hc]
      exact putAll_same (fun c o hm => hL c o (by simp [hm])) s o e

theorem keep_sub {α : Type} {L Lx : List (Nat × α)} (hs : ∀ s o, get L s = some o → get Lx s = some o) : ∀ {ks : List Nat} {M : List (Nat × α)}, keep ks L = some M → keep ks Lx = some M
  | [], M, e => e
  | k :: ks, M, e => by
    simp only [keep] at e ⊢
    split at e
    · rename_i x r hx hr
      rw [hs k x hx, keep_sub hs hr]
      exact e
    · cases e
theorem cDrawL_drawn {ops : Array Oper} {i : Nat} {o : Oper} {d : Nat} {frI : Fr} {us : List (Option Ty)} {f : Nat} {as : List AV} {q : Prop} {R : AV} {Lin : LL} (σ : List (Nat × Nat)) (ho1 : ops[i]? = some o) (hd1 : o.dst = some d)
    (hc : cDraw ops frI us o = some (f, as.map (AV.ren (sig σ)), q)) (hq : q)
    (hfn : isFn C.P f = true) (hF : FnC C.P f as Lin R Lin) (hL : keep (Lin.map fun p => sig σ p.1) L = some (Lin.map fun p => (sig σ p.1, p.2.ren (sig σ)))) (hk : (lendOk σ Lin Lin && R.data) = true) : Drawn C ops i d R frI L := by
  intro h ρ a w hr Q K next0
  simp only [Bool.and_eq_true] at hk
  obtain ⟨hk, hR⟩ := hk
  have hk0 := hk
  unfold lendOk at hk0
  simp only [Bool.and_eq_true, decide_eq_true_eq] at hk0
  obtain ⟨⟨⟨⟨hnd, hsnd⟩, _⟩, _⟩, _⟩ := hk0
  unfold cDraw at hc
  split at hc
  · rename_i gd q' hg
    obtain ⟨⟨f', as0⟩, hcall, hd⟩ := Option.bind_eq_some_iff.1 hc
    obtain ⟨as', hco, he⟩ := Option.map_eq_some_iff.1 hd
    simp only [Prod.mk.injEq] at he
    obtain ⟨rfl, rfl, rfl⟩ := he
    obtain ⟨hw, hgd⟩ := guardIs_spec hr hg hq
    obtain ⟨vs, hrun, hall0⟩ := callOf_spec hr hgd hcall hfn
    have hall := coer_spec _ _ _ _ hco hall0
    unfold wpOp
    rw [ho1]
    simp only
    rw [if_pos hw]
    left
    unfold Oper.wp
    rw [hrun, Oper.upon_enter]
    have inL : ∀ {c o}, get Lin c = some o → get L (sig σ c) = some (o.ren (sig σ)) := fun hg => keep_map hL (get_mem _ _ _ hg)
    refine (hF h (fun c => ρ (sig σ c)) w vs hr.heap (fun s o hs => orel_ren.2 ((hr.objs _ _ (inL hs)).own_mono fun _ _ => trivial)) ?_ (all2_vrel_ren hall)).mono ?_
    · intro s s' o1 o2 b hne hs hs' hb
      refine hr.apart (sig σ s) (sig σ s') _ _ b (fun e => hne ?_) (inL hs) (inL hs') hb
      have := nodup_map_inj hsnd (get_mem _ _ _ hs) (get_mem _ _ _ hs') e
      simp only [Prod.mk.injEq] at this
      exact this.1
    · rintro e w' ⟨v, h', ρ', rfl, hrel, hout⟩
      show K (a.put o.dst v) w'
      rw [hd1]
      refine next0 h' v w' hout.ext (fun _ Lx hsub hx => (hx.lend hk (keep_sub hsub hL) (fun _ _ e => e) hout).less (putAll_same fun c o hm => keep_map (keep_sub hsub hL) hm)) ?_
      cases R with
      | one x => exact SRel.ofData hR hrel
      | tup xs =>
        obtain ⟨us, rfl, hall2⟩ := hrel
        exact ⟨us, rfl, all2_ofData hR hall2⟩
      | agg _ => simp [AV.data] at hR
      | mb _ _ _ => simp [AV.data] at hR
  · simp at hc

/-- calls that may be handed objects, which they leave as they are -/
def AllD (P : Program) (L : LL) : List (Nat × List AV × AV) → Prop
  | [] => True
  | (f, as, R) :: r => (isFn P f = true ∧ R.data = true ∧ ∃ (σ : List (Nat × Nat)) (as0 : List AV) (Lin : LL), as = as0.map (AV.ren (sig σ)) ∧ FnC P f as0 Lin R Lin ∧
      keep (Lin.map fun p => sig σ p.1) L = some (Lin.map fun p => (sig σ p.1, p.2.ren (sig σ))) ∧ lendOk σ Lin Lin = true) ∧ AllD P L r
theorem allD0 {P : Program} {L : LL} : AllD P L [] := trivial
theorem allD2 {P : Program} {L : LL} {f : Nat} {as : List AV} {R : AV} {r : List (Nat × List AV × AV)} (σ : List (Nat × Nat)) (as0 : List AV) (Lin : LL) (h1 : isFn P f = true) (h2 : FnC P f as0 Lin R Lin) (h3 : R.data = true)
    (h4 : as = as0.map (AV.ren (sig σ))) (h5 : keep (Lin.map fun p => sig σ p.1) L = some (Lin.map fun p => (sig σ p.1, p.2.ren (sig σ)))) (h6 : lendOk σ Lin Lin = true) (t : AllD P L r) : AllD P L ((f, as, R) :: r) := ⟨⟨h1, h3, σ, as0, Lin, h4, h2, h5, h6⟩, t⟩
theorem ents2_specD {ops : Array Oper} {fr0 : Fr} {orcs : List (Nat × Orc)} {cs : List (Nat × List (Option Ty) × AV)} : ∀ (l : List Oper) (i : Nat) (acc out : List (Nat × AV)) (obs : List Prop) (calls : List (Nat × List AV × AV)), acc.length = i →
    ents2 C.P ops fr0 L orcs cs i l acc = some (out, obs, calls) → AllP obs → AllD C.P L calls → (∀ k o, l[k]? = some o → ops[i + k]? = some o) →
    out.length = i + l.length ∧ (∀ k, k < i → out[k]? = acc[k]?) ∧ ∀ k o, l[k]? = some o → ∃ d av, o.dst = some d ∧ out[i + k]? = some (d, av) ∧ Drawn C ops (i + k) d av (pick (out.take (i + k)) (edgesOf o) ++ fr0) L ∧
      (∀ g b x, av = .mb g b x → ∃ j, o.guard = some (j, b) ∧ guardSlot ops j = some g)
  | [], i, acc, out, obs, calls, hl, h, _, _, _ => by
    simp only [ents2, Option.some.injEq, Prod.mk.injEq] at h
    obtain ⟨rfl, _⟩ := h
    exact ⟨by simp [hl], fun _ _ => rfl, fun k o hk => by simp at hk⟩
  | o :: l, i, acc, out, obs, calls, hl, h, ho, hcl, hops => by
    have fin : ∀ (d : Nat) (av : AV) (l' : List (Nat × AV)) (q : List Prop) (cl : List (Nat × List AV × AV)), o.dst = some d → ents2 C.P ops fr0 L orcs cs (i + 1) l (acc ++ [(d, av)]) = some (l', q, cl) → AllP q → AllD C.P L cl →
        (Drawn C ops i d av (pick acc (edgesOf o) ++ fr0) L ∧ (∀ g b x, av = .mb g b x → ∃ j, o.guard = some (j, b) ∧ guardSlot ops j = some g)) → 
        l'.length = i + (o :: l).length ∧ (∀ k, k < i → l'[k]? = acc[k]?) ∧ ∀ k o', (o :: l)[k]? = some o' → ∃ d av, o'.dst = some d ∧ l'[i + k]? = some (d, av) ∧ Drawn C ops (i + k) d av (pick (l'.take (i + k)) (edgesOf o') ++ fr0) L ∧
          (∀ g b x, av = .mb g b x → ∃ j, o'.guard = some (j, b) ∧ guardSlot ops j = some g) := by
      intro d av l' q cl hd he hq hcl' hdr
      obtain ⟨h1, h2, h3⟩ := ents2_specD l (i + 1) (acc ++ [(d, av)]) l' q cl (by simp [hl]) he hq hcl' (fun k o' hk => by
        have := hops (k + 1) o' (by simpa using hk)
        rwa [show i + (k + 1) = i + 1 + k by omega] at this)
      have hacc : l'.take i = acc := by
        apply List.ext_getElem?
        intro k
        rw [List.getElem?_take]
        split
        · rename_i hk
          rw [h2 k (by omega), List.getElem?_append_left (by omega)]
        · rw [List.getElem?_eq_none (by omega)]
      refine ⟨by rw [h1]; simp; omega, fun k hk => ?_, fun k o' hk => ?_⟩
      · rw [h2 k (by omega), List.getElem?_append_left (by omega)]
      · cases k with
        | zero =>
          simp only [List.getElem?_cons_zero, Option.some.injEq] at hk
          subst hk
          refine ⟨d, av, hd, ?_, ?_, hdr.2⟩
          · rw [Nat.add_zero, h2 i (by omega), List.getElem?_append_right (by omega)]; simp [hl]
          · rw [Nat.add_zero, hacc]; exact hdr.1
        | succ k =>
          obtain ⟨d', av', a1, a2, a3, a4⟩ := h3 k o' (by simpa using hk)
          have e : i + 1 + k = i + (k + 1) := by omega
          rw [e] at a2 a3
          exact ⟨d', av', a1, a2, a3, a4⟩
    have hoi : ops[i]? = some o := by simpa using hops 0 o rfl
    simp only [ents2] at h
    split at h
    · rename_i d hd
      split at h
      · rename_i us R hcs
        split at h
        · rename_i f as q hcd
          split at h
          · rename_i l' obs' calls' he
            simp only [Option.some.injEq, Prod.mk.injEq] at h
            obtain ⟨rfl, rfl, rfl⟩ := h
            obtain ⟨hq1, hq2⟩ := AllP.cons' ho
            obtain ⟨⟨hfn, hR, σ, as0, Lin, e0, hF, hL, hk⟩, hcl2⟩ := hcl
            subst e0
            exact fin d R _ _ _ hd he hq2 hcl2 ⟨cDrawL_drawn σ hoi hd hcd hq1 hfn hF hL (by rw [hk, hR]; rfl), fun g b x e => by subst e; simp [AV.data] at hR⟩
          · simp at h
        · simp at h
      · split at h
        · rename_i av p hk
          split at h
          · rename_i l' obs' calls' he
            simp only [Option.some.injEq, Prod.mk.injEq] at h
            obtain ⟨rfl, rfl, rfl⟩ := h
            obtain ⟨hq1, hq2⟩ := ho.append
            exact fin d av _ _ _ hd he hq2 hcl (kDraw_drawn hoi hd hk hq1)
          · simp at h
        · simp at h
    · simp at h

theorem W_draw4 {B : Code} {p : List Nat} {Q : Post} {fr' : Fr} {L' : LL} (m : Nat) (late : List Nat) (orcs : List (Nat × Orc)) (cs : List (Nat × List (Option Ty) × AV)) (kF kL : List Nat) {out : List (Nat × AV)} {obs obs2 : List Prop} {calls : List (Nat × List AV × AV)} (hdr : isDraw (nav B p) = true)
    (hm : C.P.follows .mixedOrders = true) (hok : (drawOkL (opsOf (nav B p)) m late && dstOk C.n (opsOf (nav B p)) && once fr) = true)
    (he : ents2 C.P (opsOf (nav B p)) (baseFr (opsOf (nav B p)) m fr) L orcs cs 0 ((opsOf (nav B p)).toList.take m) [] = some (out, obs, calls)) (ho : AllP obs) (hc : AllD C.P L calls)
    (htail : (match run C.P (opsOf (nav B p)) orcs m ((opsOf (nav B p)).toList.drop m) (out ++ baseFr (opsOf (nav B p)) m fr) L with | some (f, l, ob) => (restr kF kL f l).map fun r => (r.1, r.2, ob) | none => none) = some (fr', L', obs2)) (ho2 : AllP obs2)
    (hn : Q .normal fr' L') : W C (nav B p) Q fr L := by
  obtain ⟨h1, _, h3⟩ := ents2_specD _ 0 [] out obs calls rfl he ho hc (fun k o hk => by
    rw [Nat.zero_add]
    have : k < m := by
      have := (List.getElem?_eq_some_iff.1 hk).1
      simp at this; omega
    rw [List.getElem?_take_of_lt this] at hk
    simpa using hk)
  have hmle : m ≤ (opsOf (nav B p)).size := by
    simp only [Bool.and_eq_true] at hok
    exact (drawOkL_parts hok.1.1).1
  refine W_drawL m late orcs kF kL hdr hm hok (by rw [h1]; simp; omega) (fun i o hi hoi => ?_) htail ho2 hn
  have := h3 i o (by rw [List.getElem?_take_of_lt hi]; simpa using hoi)
  simpa using this
end
end Go.Sl

/- Operations in drawn regions that make new slices, which are data from there on. -/
namespace Go.Sl
open Go
section
variable {C : Ctx} {h : Heap} {ρ : Nat → Value} {fr : Fr} {L : LL} {a : Act} {w : World}

def aDraw (P : Program) (ops : Array Oper) (fr : Fr) (ov : Option Orc) (d : Nat) (o : Oper) : Option (AV × List Prop) :=
  match guardIs ops fr o with
  | some (gd, q) =>
    match exec P fr [] gd ov o with
    | some (f, l, obs) =>
      match frzF f l d with
      | some (f', _) => match get f' d with
        | some av => if av.data then some (av, q :: obs) else none
        | none => none
      | none => none
    | none => none
  | none => none

theorem aDraw_drawn {ops : Array Oper} {i : Nat} {o : Oper} {d : Nat} {frI : Fr} {ov : Option Orc} {av : AV} {obs : List Prop} (ho1 : ops[i]? = some o) (hd1 : o.dst = some d) (hdn : d < C.n)
    (hx : aDraw C.P ops frI ov d o = some (av, obs)) (hobs : AllP obs) : Drawn C ops i d av frI L ∧ av.data = true := by
  unfold aDraw at hx
  split at hx
  · rename_i gd q hg
    split at hx
    · rename_i f l obs' hex
      split at hx
      · rename_i f' l' hfrz
        split at hx
        · rename_i av' hget
          split at hx
          · rename_i hdat
            simp only [Option.some.injEq, Prod.mk.injEq] at hx
            obtain ⟨rfl, rfl⟩ := hx
            refine ⟨?_, hdat⟩
            obtain ⟨hq, hob⟩ := AllP.cons' hobs
            intro h ρ a w hr Q K next0
            obtain ⟨hw, hgd⟩ := guardIs_spec hr hg hq
            let C0 : Ctx := ⟨C.P, C.n, w, h, fun _ => False, fun _ => none⟩
            have hr0 : RelH C0 h ρ frI [] a w := ⟨hr.size, hr.defers, hr.fr, hr.heap, fun s o hs => (by simp [get] at hs), fun s s' o o' b _ hs => (by simp [get] at hs), Ext.refl h, fun _ e _ => e, rfl, rfl, rfl, Nat.le_refl _,
              fun _ _ _ => rfl, fun _ e => e.elim, fun s v e => (by cases e), fun _ _ => rfl, fun s o b hs => (by simp [get] at hs)⟩
            have fin : ∀ (v : Value) (w' : World), Rel C0 f l (a.put o.dst v) w' → K (a.put (some d) v) w' := by
              intro v w' hrel
              obtain ⟨h', ρ', hr'⟩ := hrel.frzF hfrz
              have hout : Out h ρ w [] h' ρ' w' [] := ⟨hr'.ext, hr'.heap, hr'.fresh, hr'.os, hr'.tape, hr'.output, hr'.grow, fun b hb _ => hr'.frame b hb (fun e => e), fun s o hs => (by simp [get] at hs),
                fun s s' o o' b _ hs => (by simp [get] at hs), fun s _ ⟨o, ho⟩ => (by simp [get] at ho), fun s o b hs => (by simp [get] at hs)⟩
              refine next0 h' v w' hr'.ext (fun _ _ _ hx => hx.extend hout) ?_
              have hv := (hr'.fr d _ hget).2
              have hval : (a.put o.dst v).tmps.getD d undef = v := by
                rw [hd1]; simp [Act.put, hr.size, hdn]
              rw [hval] at hv
              cases av' with
              | one x => exact SRel.ofData hdat hv
              | tup xs =>
                obtain ⟨us, rfl, hall2⟩ := hv
                exact ⟨us, rfl, all2_ofData hdat hall2⟩
              | agg _ => simp [AV.data] at hdat
              | mb _ _ _ => simp [AV.data] at hdat
            unfold wpOp
            rw [ho1]
            simp only
            rw [if_pos hw]
            left
            unfold Oper.wp
            rcases exec_sound (C := C0) hr0 hgd (fun d' e => by rw [hd1] at e; obtain rfl := Option.some.inj e; exact hdn) hex hob with ⟨v, w', hrun, hrel⟩ | ⟨w', hrun, hrel⟩
            · rw [show (execOp a.eval o).run C.P w = _ from hrun, Oper.upon_value, hd1]; exact fin v w' hrel
            · rw [show (execOp a.eval o).run C.P w = _ from hrun, Oper.upon_skip, hd1]; exact fin undef w' hrel
          · simp at hx
        · simp at hx
      · simp at hx
    · simp at hx
  · simp at hx

/-- an operation that looks alone, or one that makes a slice -/
def xDraw (P : Program) (ops : Array Oper) (fr : Fr) (L : LL) (og ov : Option Orc) (d : Nat) (o : Oper) : Option (AV × List Prop) :=
  match kDraw P ops fr L og ov o with
  | some r => some r
  | none => aDraw P ops fr ov d o

theorem dstOk_spec {n : Nat} {ops : Array Oper} (h : dstOk n ops = true) {k : Nat} {o : Oper} {d : Nat} (ho : ops[k]? = some o) (hd : o.dst = some d) : d < n := by
  unfold dstOk at h
  have := List.all_eq_true.1 h o (List.mem_of_getElem? (by simpa using ho))
  rw [hd] at this
  exact of_decide_eq_true this

def ents3 (P : Program) (ops : Array Oper) (fr0 : Fr) (L : LL) (orcs : List (Nat × Orc)) (cs : List (Nat × List (Option Ty) × AV)) : Nat → List Oper → List (Nat × AV) → Option (List (Nat × AV) × List Prop × List (Nat × List AV × AV))
  | _, [], acc => some (acc, [], [])
  | i, o :: r, acc =>
    match o.dst with
    | some d =>
      match get cs i with
      | some (us, R) =>
        match cDraw ops (pick acc (edgesOf o) ++ fr0) us o with
        | some (f, as, q) =>
          match ents3 P ops fr0 L orcs cs (i + 1) r (acc ++ [(d, R)]) with
          | some (l, obs, calls) => some (l, q :: obs, (f, as, R) :: calls)
          | none => none
        | none => none
      | none =>
        match xDraw P ops (pick acc (edgesOf o) ++ fr0) L (get orcs (2 * i)) (get orcs (2 * i + 1)) d o with
        | some (av, p) =>
          match ents3 P ops fr0 L orcs cs (i + 1) r (acc ++ [(d, av)]) with
          | some (l, obs, calls) => some (l, p ++ obs, calls)
          | none => none
        | none => none
    | none => none

theorem ents3_spec {ops : Array Oper} {fr0 : Fr} {orcs : List (Nat × Orc)} {cs : List (Nat × List (Option Ty) × AV)} : ∀ (l : List Oper) (i : Nat) (acc out : List (Nat × AV)) (obs : List Prop) (calls : List (Nat × List AV × AV)), acc.length = i →
    ents3 C.P ops fr0 L orcs cs i l acc = some (out, obs, calls) → AllP obs → AllD C.P L calls → (∀ k o, l[k]? = some o → ops[i + k]? = some o) → (∀ (k : Nat) (o : Oper) (d : Nat), ops[k]? = some o → o.dst = some d → d < C.n) →
    out.length = i + l.length ∧ (∀ k, k < i → out[k]? = acc[k]?) ∧ ∀ k o, l[k]? = some o → ∃ d av, o.dst = some d ∧ out[i + k]? = some (d, av) ∧ Drawn C ops (i + k) d av (pick (out.take (i + k)) (edgesOf o) ++ fr0) L ∧
      (∀ g b x, av = .mb g b x → ∃ j, o.guard = some (j, b) ∧ guardSlot ops j = some g)
  | [], i, acc, out, obs, calls, hl, h, _, _, _, _ => by
    simp only [ents3, Option.some.injEq, Prod.mk.injEq] at h
    obtain ⟨rfl, _⟩ := h
    exact ⟨by simp [hl], fun _ _ => rfl, fun k o hk => by simp at hk⟩
  | o :: l, i, acc, out, obs, calls, hl, h, ho, hcl, hops, hdn => by
    have fin : ∀ (d : Nat) (av : AV) (l' : List (Nat × AV)) (q : List Prop) (cl : List (Nat × List AV × AV)), o.dst = some d → ents3 C.P ops fr0 L orcs cs (i + 1) l (acc ++ [(d, av)]) = some (l', q, cl) → AllP q → AllD C.P L cl →
        (Drawn C ops i d av (pick acc (edgesOf o) ++ fr0) L ∧ (∀ g b x, av = .mb g b x → ∃ j, o.guard = some (j, b) ∧ guardSlot ops j = some g)) → 
        l'.length = i + (o :: l).length ∧ (∀ k, k < i → l'[k]? = acc[k]?) ∧ ∀ k o', (o :: l)[k]? = some o' → ∃ d av, o'.dst = some d ∧ l'[i + k]? = some (d, av) ∧ Drawn C ops (i + k) d av (pick (l'.take (i + k)) (edgesOf o') ++ fr0) L ∧
          (∀ g b x, av = .mb g b x → ∃ j, o'.guard = some (j, b) ∧ guardSlot ops j = some g) := by
      intro d av l' q cl hd he hq hcl' hdr
      obtain ⟨h1, h2, h3⟩ := ents3_spec l (i + 1) (acc ++ [(d, av)]) l' q cl (by simp [hl]) he hq hcl' (fun k o' hk => by
        have := hops (k + 1) o' (by simpa using hk)
        rwa [show i + (k + 1) = i + 1 + k by omega] at this) hdn
      have hacc : l'.take i = acc := by
        apply List.ext_getElem?
        intro k
        rw [List.getElem?_take]
        split
        · rename_i hk
          rw [h2 k (by omega), List.getElem?_append_left (by omega)]
        · rw [List.getElem?_eq_none (by omega)]
      refine ⟨by rw [h1]; simp; omega, fun k hk => ?_, fun k o' hk => ?_⟩
      · rw [h2 k (by omega), List.getElem?_append_left (by omega)]
      · cases k with
        | zero =>
          simp only [List.getElem?_cons_zero, Option.some.injEq] at hk
          subst hk
          refine ⟨d, av, hd, ?_, ?_, hdr.2⟩
          · rw [Nat.add_zero, h2 i (by omega), List.getElem?_append_right (by omega)]; simp [hl]
          · rw [Nat.add_zero, hacc]; exact hdr.1
        | succ k =>
          obtain ⟨d', av', a1, a2, a3, a4⟩ := h3 k o' (by simpa using hk)
          have e : i + 1 + k = i + (k + 1) := by omega
          rw [e] at a2 a3
          exact ⟨d', av', a1, a2, a3, a4⟩
    have hoi : ops[i]? = some o := by simpa using hops 0 o rfl
    simp only [ents3] at h
    split at h
    · rename_i d hd
      split at h
      · rename_i us R hcs
        split at h
        · rename_i f as q hcd
          split at h
          · rename_i l' obs' calls' he
            simp only [Option.some.injEq, Prod.mk.injEq] at h
            obtain ⟨rfl, rfl, rfl⟩ := h
            obtain ⟨hq1, hq2⟩ := AllP.cons' ho
            obtain ⟨⟨hfn, hR, σ, as0, Lin, e0, hF, hL, hk⟩, hcl2⟩ := hcl
            subst e0
            exact fin d R _ _ _ hd he hq2 hcl2 ⟨cDrawL_drawn σ hoi hd hcd hq1 hfn hF hL (by rw [hk, hR]; rfl), fun g b x e => by subst e; simp [AV.data] at hR⟩
          · simp at h
        · simp at h
      · split at h
        · rename_i av p hk
          split at h
          · rename_i l' obs' calls' he
            simp only [Option.some.injEq, Prod.mk.injEq] at h
            obtain ⟨rfl, rfl, rfl⟩ := h
            obtain ⟨hq1, hq2⟩ := ho.append
            unfold xDraw at hk
            split at hk
            · rename_i hk0
              obtain rfl := Option.some.inj hk
              exact fin d av _ _ _ hd he hq2 hcl (kDraw_drawn hoi hd hk0 hq1)
            · obtain ⟨h5, h6⟩ := aDraw_drawn (L := L) hoi hd (hdn i o d hoi hd) hk hq1
              exact fin d av _ _ _ hd he hq2 hcl ⟨h5, fun g b x e => by subst e; simp [AV.data] at h6⟩
          · simp at h
        · simp at h
    · simp at h

theorem W_draw5 {B : Code} {p : List Nat} {Q : Post} {fr' : Fr} {L' : LL} (m : Nat) (late : List Nat) (orcs : List (Nat × Orc)) (cs : List (Nat × List (Option Ty) × AV)) (kF kL : List Nat) {out : List (Nat × AV)} {obs obs2 : List Prop} {calls : List (Nat × List AV × AV)} (hdr : isDraw (nav B p) = true)
    (hm : C.P.follows .mixedOrders = true) (hok : (drawOkL (opsOf (nav B p)) m late && dstOk C.n (opsOf (nav B p)) && once fr) = true)
    (he : ents3 C.P (opsOf (nav B p)) (baseFr (opsOf (nav B p)) m fr) L orcs cs 0 ((opsOf (nav B p)).toList.take m) [] = some (out, obs, calls)) (ho : AllP obs) (hc : AllD C.P L calls)
    (htail : (match run C.P (opsOf (nav B p)) orcs m ((opsOf (nav B p)).toList.drop m) (out ++ baseFr (opsOf (nav B p)) m fr) L with | some (f, l, ob) => (restr kF kL f l).map fun r => (r.1, r.2, ob) | none => none) = some (fr', L', obs2)) (ho2 : AllP obs2)
    (hn : Q .normal fr' L') : W C (nav B p) Q fr L := by
  obtain ⟨h1, _, h3⟩ := ents3_spec _ 0 [] out obs calls rfl he ho hc (fun k o hk => by
    rw [Nat.zero_add]
    have : k < m := by
      have := (List.getElem?_eq_some_iff.1 hk).1
      simp at this; omega
    rw [List.getElem?_take_of_lt this] at hk
    simpa using hk) (fun k o d hk hd => by
    simp only [Bool.and_eq_true] at hok
    exact dstOk_spec hok.1.2 hk hd)
  have hmle : m ≤ (opsOf (nav B p)).size := by
    simp only [Bool.and_eq_true] at hok
    exact (drawOkL_parts hok.1.1).1
  refine W_drawL m late orcs kF kL hdr hm hok (by rw [h1]; simp; omega) (fun i o hi hoi => ?_) htail ho2 hn
  have := h3 i o (by rw [List.getElem?_take_of_lt hi]; simpa using hoi)
  simpa using this
end
end Go.Sl

/- What slices.Grow does with a nil slice: its room, its beginning, zeros behind it, and a slice of one's own cut shorter. -/
namespace Go.Sl
open Go
section
variable {C : Ctx} {fr : Fr} {L : LL} {Q : Post}

/-- one operation, by what the machine does -/
theorem WO_step {ops : Array Oper} {i j : Nat} {o : Oper} {fr' : Fr} {L' : LL} (hj : j = i + 1) (ho : ops[i]? = some o) (hg : o.guard = none)
    (hrun : ∀ (h : Heap) (ρ : Nat → Value) (a : Act) (w : World), RelH C h ρ fr L a w → ∃ v w', (execOp a.eval o).run C.P w = .ok (.value v) w' ∧ Rel C fr' L' (a.put o.dst v) w')
    (hn : WO C ops j Q fr' L') : WO C ops i Q fr L := by
  intro a w ⟨h, ρ, hr⟩
  have hlen : i < ops.toList.length := by
    have := (Array.getElem?_eq_some_iff.1 ho).1; simpa using this
  have hdrop : ops.toList.drop i = o :: ops.toList.drop j := by
    rw [hj, ← List.getElem_cons_drop hlen]
    congr 1
    have := (Array.getElem?_eq_some_iff.1 ho).2
    simpa using this
  obtain ⟨v, w', hv, hrel⟩ := hrun h ρ a w hr
  rw [hdrop]
  refine wpList_step fun K hK => ?_
  rw [if_pos (by simp [Region.wanted, hg])]
  unfold Oper.wp
  rw [hv, Oper.upon_value]
  exact hK _ _ (hn _ _ hrel)

def gDo (P : Program) (n : Nat) (fr : Fr) (L : LL) (o : Oper) : Option (Fr × LL × Prop) :=
  match o.guard, o.dst, o.op with
  | none, some d, .call c =>
    if d < n then
      match c.callee, c.args.toList, c.argTypes.toList with
      | .builtin .cap, [x], [t] =>
        match P.underlying t, evS fr none x with
        | some (.slice _), some (.one .nilS) => some (putF fr d (.one (ci 0)), L, True)
        | _, _ => none
      | .builtin .append, [s, x], [t, t2] =>
        match P.underlying t, P.underlying t2, evS fr none s, evS fr none x with
        | some (.slice e), some (.int _), some (.one .nilS), some (.one (.dat (.int _) m)) =>
          match tyAt P e, zeroSV P e with
          | some u, some cs => if elemOk P e u ∧ isZero u cs ∧ nameOk d then some (putF (killF d fr) d (.one (.slc d)), newL d (.seq u (List.replicate m.toNat (zeroOf u))) L, 0 ≤ m ∧ SmallLen m) else none
          | _, _ => none
        | _, _, _, _ => none
      | _, _, _ => none
    else none
  | none, some d, .slice t x none (some hi) none =>
    if d < n then
      match P.underlying t, evS fr none x, iOf (evS fr none hi) with
      | some (.slice e), some (.one .nilS), some k => if k = 0 ∧ (P.info? e).isSome then some (putF fr d (.one .nilS), L, True) else none
      | some (.slice e), some (.one (.slc s)), some k =>
        match get L s with
        | some (.seq u xs) => if nameOk s ∧ (P.info? e).isSome then some (putF (killF s fr) d (.one (.slc s)), newL s (.seq u (xs.take k.toNat)) L, 0 ≤ k ∧ k ≤ List.length xs) else none
        | _ => none
      | _, _, _ => none
    else none
  | _, _, _ => none

def gAt (P : Program) (n : Nat) (ops : Array Oper) (i : Nat) (kF kL : List Nat) (fr : Fr) (L : LL) : Option (Fr × LL × Prop) :=
  match ops[i]? with
  | some o => match gDo P n fr L o with
    | some (f, l, p) => (restr kF kL f l).map fun r => (r.1, r.2, p)
    | none => none
  | none => none

theorem zeroCells_made (z : Array Value) (n : Nat) : Builtin.zeroCells z n = madeCells z (n * z.size) := rfl

theorem run_append_zeros {P : Program} {w : World} {t tn ty e : TypeId} {i : TypeInfo} {z : Value} {k kn : IntKind} (ht : P.underlying t = some (.slice e)) (htn : P.underlying tn = some (.int kn)) (hi : P.info? e = some i) (hz : i.zero = some z)
    {n : Nat} (h0 : 0 < n) (hs : 0 < i.size) (h63 : (n : Int) ≤ 9223372036854775807) (h48 : n * i.bytes ≤ 140737488355328) :
    (Builtin.append_ #[t, tn] ty #[.slice none 0 0, .int k n]).run P w =
      .ok (.slice (some ⟨w.heap.size, 0, none⟩) n (grownCap w n 0 e)) (w.drew.alloc (.cells (Builtin.zeroCells z.cells n ++ Builtin.zeroCells z.cells (grownCap w n 0 e - n)) e)) := by
  have hn : n ≠ 0 := by omega
  have hw : IntKind.i64.wrap (n : Int) = n := by rw [IntKind.wrap_i64]; omega
  have h63' : ¬ (9223372036854775807 < (n : Int)) := by omega
  have hfit := growslice_fits (need := n) (old := 0) h0 h48
  have h48' : ¬ (281474976710656 < Builtin.nextslicecap n 0 * i.bytes) := by omega
  have h48i : ¬ (281474976710656 < (n : Int) * (i.bytes : Int)) := by
    rw [← Int.natCast_mul]
    omega
  have hneg : ¬ ((n : Int) < 0) := by omega
  have hns : ¬ (n * i.size = 0) := Nat.mul_ne_zero hn (by omega)
  simp [Builtin.append_, run_underlying' ht, run_underlying' htn, sizeOf, typeInfo, zeroValue, hi, hz, asInt, asIntOf, hw, hn, hneg, hns, h63', h48', h48i, Question.forced, Builtin.firstCells, newRow, grownCap]

theorem run_append_zeros0 {P : Program} {w : World} {t tn ty e : TypeId} {i : TypeInfo} {k kn : IntKind} (ht : P.underlying t = some (.slice e)) (htn : P.underlying tn = some (.int kn)) (hi : P.info? e = some i) :
    (Builtin.append_ #[t, tn] ty #[.slice none 0 0, .int k 0]).run P w = .ok (.slice none 0 0) w := by
  have hw : IntKind.i64.wrap (0 : Int) = 0 := by rw [IntKind.wrap_i64]; rfl
  simp [Builtin.append_, run_underlying' ht, run_underlying' htn, sizeOf, typeInfo, hi, asInt, asIntOf, hw]

theorem madeCells_app (z : Array Value) (a b : Nat) : madeCells z (a * z.size) ++ madeCells z (b * z.size) = madeCells z ((a + b) * z.size) := by
  apply Array.ext_getElem?
  intro j
  unfold madeCells
  rw [Array.getElem?_append]
  simp only [Array.size_map, Array.size_range, Array.getElem?_map]
  split
  · rename_i h
    rw [Array.getElem?_eq_getElem (by simpa using h), Array.getElem?_eq_getElem (by simp [Nat.add_mul]; omega)]
    simp
  · rename_i h
    by_cases h2 : j < (a + b) * z.size
    · rw [Array.getElem?_eq_getElem (by simp [Nat.add_mul] at h2 ⊢; omega), Array.getElem?_eq_getElem (by simpa using h2)]
      simp
      congr 1
      have : j = (j - a * z.size) + z.size * a := by have hc := Nat.mul_comm z.size a; omega
      conv => rhs; rw [this, Nat.add_mul_mod_self_left]
    · rw [Array.getElem?_eq_none (by simp [Nat.add_mul] at h2 ⊢; omega), Array.getElem?_eq_none (by simpa using h2)]

theorem gDo_sound {o : Oper} {fr' : Fr} {L' : LL} {p : Prop} (hs : gDo C.P C.n fr L o = some (fr', L', p)) (hp : p) : o.guard = none ∧ ∀ (h : Heap) (ρ : Nat → Value) (a : Act) (w : World), RelH C h ρ fr L a w →
    ∃ v w', (execOp a.eval o).run C.P w = .ok (.value v) w' ∧ Rel C fr' L' (a.put o.dst v) w' := by
  unfold gDo at hs
  split at hs
  · rename_i d c hgd hdst hop
    refine ⟨hgd, fun h ρ a w hr => ?_⟩
    have hev : ∀ x y, evS fr none x = some y → VRel h ρ a.tmps y (a.eval x) ∧ y.sure = true := fun x y hy => evS_sound hr.fr (fun _ _ e => by cases e) hy
    split at hs
    · rename_i hdn
      split at hs
      · rename_i x t hcal hargs hts
        have ha' : c.args = #[x] := by rw [← Array.toList_inj]; simpa using hargs
        have ht' : c.argTypes = #[t] := by rw [← Array.toList_inj]; simpa using hts
        split at hs
        · rename_i e hu hx
          simp only [Option.some.injEq, Prod.mk.injEq] at hs
          obtain ⟨rfl, rfl, rfl⟩ := hs
          have hv : a.eval x = .slice none 0 0 := (hev _ _ hx).1
          refine ⟨.int .i64 0, w, ?_, ?_⟩
          · simp only [execOp, hop, resolve, hcal, ha', ht']
            simp [invoke, builtin, Builtin.cap_, run_underlying' hu, hv, goInt]
          · rw [hdst]
            exact ⟨h, ρ, hr.putSlot d _ _ hdn vrel_int⟩
        · simp at hs
      · rename_i s x t t2 hcal hargs hts
        have ha' : c.args = #[s, x] := by rw [← Array.toList_inj]; simpa using hargs
        have ht' : c.argTypes = #[t, t2] := by rw [← Array.toList_inj]; simpa using hts
        split at hs
        · rename_i el kn k m hu hu2 hsv hxv
          split at hs
          · rename_i u cs htu hcs
            split at hs
            · rename_i hcond
              obtain ⟨hok, hzero, hnm⟩ := hcond
              simp only [Option.some.injEq, Prod.mk.injEq] at hs
              obtain ⟨rfl, rfl, rfl⟩ := hs
              obtain ⟨h0, hsm⟩ := hp
              unfold SmallLen at hsm
              have hv : a.eval s = .slice none 0 0 := (hev _ _ hsv).1
              have hv2 : a.eval x = .int k m := (repV_int (h := h) (k := k) (n := m)).1 (hev _ _ hxv).1
              obtain ⟨inf, z, hi, hisz, hpos, hby, hz, hzs⟩ := elemOk_spec hok
              obtain ⟨inf', z', hi', hz', hall, _⟩ := zeroSV_spec hcs
              rw [hi] at hi'
              obtain rfl := Option.some.inj hi'
              rw [hz] at hz'
              obtain rfl := Option.some.inj hz'
              have fin : ∀ r w', (Builtin.append_ #[t, t2] o.type #[.slice none 0 0, .int k m]).run C.P w = .ok r w' → r.oneCell' = true → RelH C h (upd ρ d r) (killF d fr) (newL d (.seq u (List.replicate m.toNat (zeroOf u))) L) a w' →
                  ∃ v w', (execOp a.eval o).run C.P w = .ok (.value v) w' ∧ Rel C (putF (killF d fr) d (.one (.slc d))) (newL d (.seq u (List.replicate m.toNat (zeroOf u))) L) (a.put o.dst v) w' := by
                intro r w' hrun h1 hrel
                refine ⟨r, w', ?_, ?_⟩
                · simp only [execOp, hop, resolve, hcal, ha', ht']
                  simp [invoke, builtin, hv, hv2, hrun]
                · rw [hdst]
                  exact ⟨_, _, hrel.putSlot d _ _ hdn ⟨by simp [upd], h1⟩⟩
              have aux : ∀ q : Int, 0 ≤ q → q ≤ 4294967296 → q = (q.toNat : Int) ∧ q.toNat ≤ 4294967296 := fun q h1 h2 => by omega
              obtain ⟨hm, hm4⟩ := aux m h0 hsm
              by_cases hz0 : m.toNat = 0
              · have hm0 : m = (0 : Int) := by rw [hm, hz0]; rfl
                subst hm0
                refine fin _ _ (run_append_zeros0 hu hu2 hi) rfl ?_
                exact hr.fresh_name d hnm _ _ _ rfl rfl rfl (Nat.le_refl _) none (fun b hb => by cases hb) (fun _ _ _ => rfl) (.inl ⟨rfl, rfl⟩) (fun b hb => by simp [blockOf] at hb) (fun _ b hb => by simp [blockOf] at hb)
              · have hb48 : m.toNat * inf.bytes ≤ 140737488355328 := Nat.le_trans (Nat.mul_le_mul hm4 hby) (by decide)
                have hrun := run_append_zeros (P := C.P) (w := w) (ty := o.type) (k := k) hu hu2 hi hz (n := m.toNat) (by omega) (by omega) (by omega) hb48
                rw [← hm] at hrun
                refine fin _ _ hrun rfl ?_
                have hge := grownCap_ge w m.toNat 0 el
                have hlen : (List.replicate m.toNat (zeroOf u)).length = m.toNat := by simp
                have hcells : Builtin.zeroCells z.cells m.toNat ++ Builtin.zeroCells z.cells (grownCap w m.toNat 0 el - m.toNat) = madeCells z.cells (grownCap w m.toNat 0 el * z.cells.size) := by
                  rw [zeroCells_made, zeroCells_made, madeCells_app]
                  congr 2; omega
                rw [hcells]
                have := hr.newRow d hnm u (List.replicate m.toNat (zeroOf u)) (grownCap w m.toNat 0 el) (madeCells z.cells (grownCap w m.toNat 0 el * z.cells.size)) el w.drew rfl rfl rfl rfl (by simp [madeCells, hzs]) (by simpa using hge)
                  (by simp only [List.length_replicate]; unfold maxSl; omega) ?_
                · rw [hlen] at this; exact this
                · intro k' x' hx'
                  rw [List.getElem?_replicate] at hx'
                  split at hx'
                  · rename_i hk
                    obtain rfl := Option.some.inj hx'
                    rw [hzs, cut_made hzs (by omega)]
                    exact isZero_sound u cs _ (hall h ρ) hzero
                  · simp at hx'
            · simp at hs
          · simp at hs
        · simp at hs
      · simp at hs
    · simp at hs
  · rename_i d t x hi hgd hdst hop
    refine ⟨hgd, fun h ρ a w hr => ?_⟩
    have hev : ∀ x y, evS fr none x = some y → VRel h ρ a.tmps y (a.eval x) ∧ y.sure = true := fun x y hy => evS_sound hr.fr (fun _ _ e => by cases e) hy
    split at hs
    · rename_i hdn
      split at hs
      · rename_i e k hu hx hk
        split at hs
        · rename_i hc
          obtain ⟨rfl, hinf⟩ := hc
          simp only [Option.some.injEq, Prod.mk.injEq] at hs
          obtain ⟨rfl, rfl, rfl⟩ := hs
          obtain ⟨inf, hinf⟩ := Option.isSome_iff_exists.1 hinf
          have hv : a.eval x = .slice none 0 0 := (hev _ _ hx).1
          obtain ⟨kk, hkk⟩ := Good.iOf (h := h) (ρ := ρ) (tm := a.tmps) (fun z hz => hev _ z hz) hk
          refine ⟨.slice none 0 0, w, ?_, ?_⟩
          · simp only [execOp, hop, Option.map_none, Option.map_some, hv, hkk]
            simp only [Instr.sliceAt, Instr.slice, Sem.run_bind, run_underlying' hu, Result.andThen_ok]
            rw [run_sliceBounds2 (P := C.P) (w := w) 0 0 none (some (.int kk 0)) 0 0 (.inl ⟨rfl, rfl⟩) (.inr ⟨kk, rfl⟩) (by omega) (by omega) (by omega)]
            simp [sizeOf, typeInfo, hinf]
          · rw [hdst]
            exact ⟨h, ρ, hr.putSlot d _ _ hdn rfl⟩
        · simp at hs
      · rename_i e s k hu hx hk
        split at hs
        · rename_i u xs hg
          split at hs
          · rename_i hc
            obtain ⟨hnm, hinf⟩ := hc
            simp only [Option.some.injEq, Prod.mk.injEq] at hs
            obtain ⟨rfl, rfl, rfl⟩ := hs
            obtain ⟨h0, h1⟩ := hp
            obtain ⟨inf, hinf⟩ := Option.isSome_iff_exists.1 hinf
            have hv : a.eval x = ρ s := (hev _ _ hx).1.1
            obtain ⟨kk, hkk⟩ := Good.iOf (h := h) (ρ := ρ) (tm := a.tmps) (fun z hz => hev _ z hz) hk
            have hlt : (xs.take k.toNat).length = k.toNat := by simp; omega
            rcases hr.objs _ _ hg with ⟨hrr, hx0⟩ | ⟨b, cap, cur, ell, hrr, h1', h2, h3, h4, h5, h6, h7⟩
            · subst hx0
              have hk0 : k = 0 := by simp at h1; omega
              subst hk0
              refine ⟨.slice none 0 0, w, ?_, ?_⟩
              · simp only [execOp, hop, Option.map_none, Option.map_some, hv, hrr, hkk]
                simp only [Instr.sliceAt, Instr.slice, Sem.run_bind, run_underlying' hu, Result.andThen_ok]
                rw [run_sliceBounds2 (P := C.P) (w := w) 0 0 none (some (.int kk 0)) 0 0 (.inl ⟨rfl, rfl⟩) (.inr ⟨kk, rfl⟩) (by omega) (by omega) (by omega)]
                simp [sizeOf, typeInfo, hinf]
              · rw [hdst]
                refine ⟨h, _, (hr.fresh_name s hnm (.slice none 0 0) (.seq u (List.take 0 [])) w rfl rfl rfl (Nat.le_refl _) none (fun b hb => by cases hb) (fun _ _ _ => rfl) (.inl ⟨rfl, rfl⟩) (fun b hb => by simp [blockOf] at hb) (fun _ b hb => by simp [blockOf] at hb)).putSlot d _ _ hdn ⟨by simp [upd], rfl⟩⟩
            · refine ⟨.slice (some ⟨b, 0, none⟩) k.toNat cap, w, ?_, ?_⟩
              · simp only [execOp, hop, Option.map_none, Option.map_some, hv, hrr, hkk]
                simp only [Instr.sliceAt, Instr.slice, Sem.run_bind, run_underlying' hu, Result.andThen_ok]
                rw [run_sliceBounds2 (P := C.P) (w := w) (List.length xs) cap none (some (.int kk k)) 0 k (.inl ⟨rfl, rfl⟩) (.inr ⟨kk, rfl⟩) (by omega) (by omega) (by omega)]
                simp [sizeOf, typeInfo, hinf, Addr.add]
              · rw [hdst]
                refine ⟨h, _, (hr.fresh_name s hnm (.slice (some ⟨b, 0, none⟩) k.toNat cap) (.seq u (xs.take k.toNat)) w rfl rfl rfl (Nat.le_refl _) (some b) ?_ (fun _ _ _ => rfl) ?_ ?_ ?_).putSlot d _ _ hdn ⟨by simp [upd], rfl⟩⟩
                · intro b' hb'
                  obtain rfl := Option.some.inj hb'
                  exact ⟨h1', h2, fun s' o' hne hg' hbl => hr.apart s s' _ o' b (fun e => hne e.symm) hg hg' (by rw [hrr]; rfl) hbl⟩
                · refine .inr ⟨b, cap, cur, ell, by rw [hlt], h1', h2, h3, h4, by rw [hlt]; omega, by rw [hlt]; omega, ?_⟩
                  intro i' x' hx'
                  rw [List.getElem?_take] at hx'
                  split at hx'
                  · exact h7 i' x' hx'
                  · simp at hx'
                · intro b' hb' s' o' hne hg' hbl
                  simp [blockOf] at hb'
                  subst hb'
                  exact hr.apart s s' _ o' b (fun e => hne e.symm) hg hg' (by rw [hrr]; rfl) hbl
                · intro hlt' b' hb'
                  simp [blockOf] at hb'
                  subst hb'
                  exact hr.low s _ b hg hlt' (by rw [hrr]; rfl)
          · simp at hs
        · simp at hs
      · simp at hs
    · simp at hs
  · simp at hs

theorem WO_g {ops : Array Oper} {i j : Nat} {fr' : Fr} {L' : LL} {p : Prop} (kF kL : List Nat) (hj : j = i + 1) (h : gAt C.P C.n ops i kF kL fr L = some (fr', L', p)) (hp : p) (hn : WO C ops j Q fr' L') : WO C ops i Q fr L := by
  unfold gAt at h
  split at h
  · rename_i o ho
    split at h
    · rename_i f l q hd
      obtain ⟨⟨f', l'⟩, hre, he⟩ := Option.map_eq_some_iff.1 h
      simp only [Prod.mk.injEq] at he
      obtain ⟨rfl, rfl, rfl⟩ := he
      obtain ⟨hg, hrun⟩ := gDo_sound hd hp
      refine WO_step hj ho hg (fun h ρ a w hr => ?_) hn
      obtain ⟨v, w', hv, hrel⟩ := hrun h ρ a w hr
      exact ⟨v, w', hv, hrel.keep (restr_spec hre).1 (restr_spec hre).2⟩
    · simp at h
  · simp at h
end
end Go.Sl

/- An object under another name. -/
namespace Go.Sl
open Go
def SV.rn (s t : Nat) : SV → SV
  | .slc r => if r = s then .slc t else .slc r
  | x => x
def AV.rn (s t : Nat) : AV → AV
  | .one x => .one (x.rn s t)
  | .agg cs => .agg (cs.map (SV.rn s t))
  | .tup cs => .tup (cs.map (SV.rn s t))
  | .mb g b x => .mb g b (x.rn s t)
def LObj.rn (s t : Nat) : LObj → LObj
  | .cells cs => .cells (cs.map (SV.rn s t))
  | o => o
def rnOk (L : LL) (s t : Nat) : Bool :=
  match get L s with
  | some (.seq _ _) => decide (s < 1000) && decide (t < 1000) && !(s == t)
  | _ => false
def rnT (fr : Fr) (L : LL) (s t : Nat) : Fr × LL :=
  match get L s with
  | some o => (mapv (AV.rn s t) (killF t fr), mapv (LObj.rn s t) (newL t o (del L s)))
  | none => (fr, L)

theorem SRel.rn {h : Heap} {ρ : Nat → Value} {s t : Nat} (hst : ρ t = ρ s) {x : SV} {v : Value} (e : SRel h ρ x v) : SRel h ρ (x.rn s t) v := by
  cases x <;> simp only [SV.rn] <;> try exact e
  split
  · rename_i hr; subst hr
    obtain ⟨e1, e2⟩ := e
    exact ⟨by rw [hst]; exact e1, e2⟩
  · exact e
theorem all2_rn {h : Heap} {ρ : Nat → Value} {s t : Nat} (hst : ρ t = ρ s) : ∀ {l : List SV} {m : List Value}, All2 (SRel h ρ) l m → All2 (SRel h ρ) (l.map (SV.rn s t)) m
  | _, _, .nil => .nil
  | _, _, .cons h r => .cons (h.rn hst) (all2_rn hst r)
theorem VRel.rn {h : Heap} {ρ : Nat → Value} {tm : Array Value} {s t : Nat} (hst : ρ t = ρ s) {x : AV} {v : Value} (e : VRel h ρ tm x v) : VRel h ρ tm (x.rn s t) v := by
  cases x <;> simp only [AV.rn, VRel] at e ⊢
  · exact e.rn hst
  · obtain ⟨vs, rfl, hf⟩ := e; exact ⟨vs, rfl, all2_rn hst hf⟩
  · obtain ⟨vs, rfl, hf⟩ := e; exact ⟨vs, rfl, all2_rn hst hf⟩
  · exact fun ht => (e ht).rn hst
theorem ORel.rn {own : Nat → Prop} {h : Heap} {ρ : Nat → Value} {w : World} {q : Value} {s t : Nat} (hst : ρ t = ρ s) {o : LObj} (e : ORel own h ρ w q o) : ORel own h ρ w q (o.rn s t) := by
  cases o <;> simp only [LObj.rn] <;> try exact e
  obtain ⟨b, cur, el, rfl, h1, h2, h3, h4, h5⟩ := e
  exact ⟨b, cur, el, rfl, h1, h2, h3, all2_rn hst h4, h5⟩

section
variable {C : Ctx} {a : Act} {w : World}
theorem RelH.rename {h : Heap} {ρ : Nat → Value} {fr : Fr} {L : LL} {s t : Nat} (hr : RelH C h ρ fr L a w) (hk : rnOk L s t = true) : RelH C h (upd ρ t (ρ s)) (rnT fr L s t).1 (rnT fr L s t).2 a w := by
  unfold rnOk at hk
  split at hk
  · rename_i u xs hg
    simp only [Bool.and_eq_true, decide_eq_true_eq, Bool.not_eq_true', beq_eq_false_iff_ne] at hk
    obtain ⟨⟨hs, ht⟩, hne⟩ := hk
    have hnm : nameOk t = true := by simp [nameOk, ht]
    have hd : RelH C h ρ fr (del L s) a w := hr.less (fun s' o' e => by
      rw [get_del] at e
      split at e
      · cases e
      · exact e)
    have hobj := hr.objs s _ hg
    have hpl : ORel C.own h (upd ρ t (ρ s)) w (ρ s) (.seq u xs) := hobj
    have hnew := hd.fresh_name t hnm (ρ s) (.seq u xs) w rfl rfl rfl (Nat.le_refl _) none (fun b hb => by cases hb) (fun _ _ _ => rfl) hpl
      (fun b hb s' o' _ hg' hb' => by
        rw [get_del] at hg'
        split at hg'
        · cases hg'
        · rename_i hss
          exact hr.apart s s' _ o' b hss hg hg' hb hb')
      (fun _ b hb => hr.low s _ b hg hs hb)
    have hst : upd ρ t (ρ s) t = upd ρ t (ρ s) s := by simp [upd, hne]
    unfold rnT
    rw [hg]
    refine { hnew with fr := fun k av hk => ?_, objs := fun k o ho => ?_, apart := fun k k' o o' b hne' ho ho' => ?_, low := fun k o b ho => ?_ }
    · rw [get_mapv] at hk
      obtain ⟨x, hx, rfl⟩ := Option.map_eq_some_iff.1 hk
      exact ⟨(hnew.fr k x hx).1, (hnew.fr k x hx).2.rn hst⟩
    · rw [get_mapv] at ho
      obtain ⟨x, hx, rfl⟩ := Option.map_eq_some_iff.1 ho
      exact (hnew.objs k x hx).rn hst
    · rw [get_mapv] at ho ho'
      obtain ⟨x, hx, rfl⟩ := Option.map_eq_some_iff.1 ho
      obtain ⟨x', hx', rfl⟩ := Option.map_eq_some_iff.1 ho'
      exact hnew.apart k k' x x' b hne' hx hx'
    · rw [get_mapv] at ho
      obtain ⟨x, hx, rfl⟩ := Option.map_eq_some_iff.1 ho
      exact hnew.low k x b hx
  · cases hk
theorem Rel.rename {fr : Fr} {L : LL} {s t : Nat} (hr : Rel C fr L a w) (hk : rnOk L s t = true) : Rel C (rnT fr L s t).1 (rnT fr L s t).2 a w := by
  obtain ⟨h, ρ, hr⟩ := hr
  exact ⟨h, _, hr.rename hk⟩
end
section
variable {C : Ctx} {fr : Fr} {L : LL} {Q : Post} {e : Exit}
theorem W_ren {c : Code} (s t : Nat) (h : rnOk L s t = true) (hw : W C c Q (rnT fr L s t).1 (rnT fr L s t).2) : W C c Q fr L := fun a w hr => hw a w (hr.rename h)
theorem WO_ren {ops : Array Oper} {i : Nat} (s t : Nat) (h : rnOk L s t = true) (hw : WO C ops i Q (rnT fr L s t).1 (rnT fr L s t).2) : WO C ops i Q fr L := fun a w hr => hw a w (hr.rename h)
theorem LT_ren (s t : Nat) (h : rnOk L s t = true) (hw : LT C Q e (rnT fr L s t).1 (rnT fr L s t).2) : LT C Q e fr L := fun a w hr => hw a w (hr.rename h)
end
end Go.Sl

/- A variable of one's own made data: pointers to it lead to data. -/
namespace Go.Sl
open Go
def SV.fz (s : Nat) (t : Ty) (x : t.den) : SV → SV
  | .ptr r o => if r = s then (if o = 0 then .dptr t x else .any) else .ptr r o
  | .eptr r z i o => if r = s then .any else .eptr r z i o
  | .slc r => if r = s then .any else .slc r
  | .fn f caps => if caps.any (·.1 == s) then .any else .fn f caps
  | y => y
def AV.fz (s : Nat) (t : Ty) (x : t.den) : AV → AV
  | .one y => .one (y.fz s t x)
  | .agg cs => .agg (cs.map (SV.fz s t x))
  | .tup cs => .tup (cs.map (SV.fz s t x))
  | .mb g b y => .mb g b (y.fz s t x)
def LObj.fz (s : Nat) (t : Ty) (x : t.den) : LObj → LObj
  | .cells cs => .cells (cs.map (SV.fz s t x))
  | o => o
def fzF (fr : Fr) (L : LL) (s : Nat) : Option (Fr × LL) :=
  match get L s with
  | some (.one t x) => if s < 1000 then some (mapv (AV.fz s t x) fr, mapv (LObj.fz s t x) (del L s)) else none
  | _ => none
def fzT (fr : Fr) (L : LL) (s : Nat) : Fr × LL := (fzF fr L s).getD (fr, L)

theorem SRel.fz {h h' : Heap} {ρ : Nat → Value} {s : Nat} {t : Ty} {x : t.den} {y : SV} {v : Value} (hx : Ext h h') (hs : ∃ b blk, ρ s = .pointer (some ⟨b, 0, none⟩) ∧ h' b = some blk ∧ rep h' t x blk) (e : SRel h ρ y v) : SRel h' ρ (y.fz s t x) v := by
  cases y <;> simp only [SV.fz] <;> first
    | exact e.mono hx
    | (split
       · rename_i hr
         first
         | trivial
         | (split
            · rename_i ho
              subst hr ho
              obtain ⟨b, blk, h1, h2, h3⟩ := hs
              obtain ⟨b', h4, rfl⟩ := e
              rw [h1] at h4
              simp only [Value.pointer.injEq, Option.some.injEq, Addr.mk.injEq, and_true] at h4
              subst h4
              have hl := rep_len _ _ _ _ h3
              exact ⟨b, 0, blk, h2, by omega, by rw [cut_full _ _ hl]; exact h3, rfl⟩
            · trivial)
       · exact e.mono hx)
theorem all2_fz {h h' : Heap} {ρ : Nat → Value} {s : Nat} {t : Ty} {x : t.den} {cs : List SV} {vs : List Value} (hx : Ext h h') (hs : ∃ b blk, ρ s = .pointer (some ⟨b, 0, none⟩) ∧ h' b = some blk ∧ rep h' t x blk) (hall : All2 (SRel h ρ) cs vs) :
    All2 (SRel h' ρ) (cs.map (SV.fz s t x)) vs := by
  induction hall with
  | nil => exact .nil
  | cons h1 _ ih => exact .cons (SRel.fz hx hs h1) ih

section
variable {C : Ctx} {a : Act} {w : World} {fr : Fr} {L : LL}
theorem Rel.fz {s : Nat} {t : Ty} {x : t.den} (hr : Rel C fr L a w) (hs : get L s = some (.one t x)) (hlt : s < 1000) :
    Rel C (mapv (AV.fz s t x) fr) (mapv (LObj.fz s t x) (del L s)) a w := by
  obtain ⟨h, ρ, hr⟩ := hr
  have hlow : ∀ b, blockOf (ρ s) = some b → C.w0.heap.size ≤ b := fun b hb => hr.low s _ b hs hlt hb
  obtain ⟨b, cur, el, hrs, h1, h2, h3, h4⟩ := hr.objs s _ hs
  let h' : Heap := fun k => if k = b then some cur.toList else h k
  have hext : Ext h h' := by
    intro k xs hk
    show (if k = b then _ else _) = _
    by_cases hkb : k = b
    · subst hkb; rw [h2] at hk; cases hk
    · rw [if_neg hkb]; exact hk
  have hnew : ∀ k, h k = none → h' k ≠ none → k = b := by
    intro k hk hk'
    by_cases hkb : k = b
    · exact hkb
    · exact (hk' (by show (if k = b then _ else _) = _; rw [if_neg hkb]; exact hk)).elim
  have hb' : h' b = some cur.toList := by show (if b = b then _ else _) = _; rw [if_pos rfl]
  have hrep : rep h' t x cur.toList := rep_mono hext _ _ _ h4
  have hsp : ∃ b blk, ρ s = .pointer (some ⟨b, 0, none⟩) ∧ h' b = some blk ∧ rep h' t x blk := ⟨b, _, hrs, hb', hrep⟩
  have getdel : ∀ k o, get (mapv (LObj.fz s t x) (del L s)) k = some o → k ≠ s ∧ ∃ p, get L k = some p ∧ o = p.fz s t x := by
    intro k o ho
    rw [get_mapv] at ho
    obtain ⟨p, hp, rfl⟩ := Option.map_eq_some_iff.1 ho
    rw [get_del] at hp
    split at hp
    · cases hp
    · rename_i hne; exact ⟨fun e => hne e.symm, p, hp, rfl⟩
  refine ⟨h', ρ, { hr with fr := fun k av hk => ?_, heap := fun k cs hk => ?_, objs := fun k o ho => ?_, apart := fun k k' o o' c hne ho ho' hb => ?_, ext := hr.ext.trans hext, fresh := fun k h0 hk => ?_, low := fun k o c ho hk hb => ?_ }⟩
  · rw [get_mapv] at hk
    obtain ⟨y, hy, rfl⟩ := Option.map_eq_some_iff.1 hk
    refine ⟨(hr.fr k y hy).1, ?_⟩
    have hv := (hr.fr k y hy).2
    cases y <;> simp only [AV.fz, VRel] at hv ⊢
    · exact hv.fz hext hsp
    · obtain ⟨vs, e, hf⟩ := hv; exact ⟨vs, e, all2_fz hext hsp hf⟩
    · obtain ⟨vs, e, hf⟩ := hv; exact ⟨vs, e, all2_fz hext hsp hf⟩
    · exact fun ht => (hv ht).fz hext hsp
  · by_cases hkb : k = b
    · subst hkb
      rw [hb'] at hk
      obtain rfl := Option.some.inj hk
      exact ⟨cur, el, _, h3, List.prefix_refl _⟩
    · have : h k = some cs := by
        have : h' k = h k := by show (if k = b then _ else _) = _; rw [if_neg hkb]
        rw [← this]; exact hk
      exact hr.heap k cs this
  · obtain ⟨hks, p, hp, rfl⟩ := getdel k o ho
    have hob := hr.objs k p hp
    have hn : ∀ c, blockOf (ρ k) = some c → h' c = none := by
      intro c hc
      cases hq : h' c with
      | none => rfl
      | some q =>
        have h0 := (hob.block hc).2.1
        have := hnew c h0 (by rw [hq]; simp)
        subst this
        exact (hr.apart k s _ _ c hks hp hs hc (by rw [hrs]; rfl)).elim
    have hob2 := hob.toHeap hext (fun _ _ => rfl) hn
    cases p <;> simp only [LObj.fz] <;> try exact hob2
    obtain ⟨b2, cur2, el2, e1, e2, e3, e4, e5, e6⟩ := hob
    exact ⟨b2, cur2, el2, e1, e2, hn b2 (by rw [e1]; rfl), e4, all2_fz hext hsp e5, e6⟩
  · obtain ⟨_, p1, hp1, rfl⟩ := getdel k o ho
    obtain ⟨_, p2, hp2, rfl⟩ := getdel k' o' ho'
    exact hr.apart k k' p1 p2 c hne hp1 hp2 hb
  · cases hq : h' k with
    | none => rfl
    | some q =>
      have hn := hr.fresh k h0 hk
      have := hnew k hn (by rw [hq]; simp)
      subst this
      have := hlow k (by rw [hrs]; rfl)
      omega
  · obtain ⟨_, p1, hp1, rfl⟩ := getdel k o ho
    exact hr.low k p1 c hp1 hk hb
theorem Rel.fzT {s : Nat} (hr : Rel C fr L a w) (hk : (fzF fr L s).isSome = true) : Rel C (fzT fr L s).1 (fzT fr L s).2 a w := by
  unfold Sl.fzT
  unfold Sl.fzF at hk ⊢
  split at hk
  · rename_i t x hs
    split at hk
    · rename_i hlt
      rw [if_pos hlt]
      exact hr.fz hs hlt
    · cases hk
  · cases hk
end
section
variable {C : Ctx} {fr : Fr} {L : LL} {Q : Post}
theorem W_fz {c : Code} (s : Nat) (h : (fzF fr L s).isSome = true) (hw : W C c Q (fzT fr L s).1 (fzT fr L s).2) : W C c Q fr L := fun a w hr => hw a w (hr.fzT h)
theorem WO_fz {ops : Array Oper} {i : Nat} (s : Nat) (h : (fzF fr L s).isSome = true) (hw : WO C ops i Q (fzT fr L s).1 (fzT fr L s).2) : WO C ops i Q fr L := fun a w hr => hw a w (hr.fzT h)
end
end Go.Sl

/- Regions that draw their order, whose last operations come one behind the other and are walked by the rules of the walk: calls and all. -/
namespace Go.Sl
open Go

/-- the way out behind the last operation, and no other -/
@[reducible] def normQ (Q : Post) : Post := fun e fr L => e = .normal ∧ Q e fr L
/-- from m on: whatever is behind an operation waits for it or for one behind it, or it looks at slots alone and nobody minds it -/
def tailOkT (ops : Array Oper) (m : Nat) : Bool :=
  (List.range ops.size).all fun k => decide (k < m) || ((List.range ops.size).all fun i => decide (i ≤ k) || match ops[i]? with | some o => (edgesOf o).any fun j => decide (k ≤ j) | none => true) ||
    match ops[k]? with
    | some ok => latePure ok && (List.range ops.size).all fun i => decide (i ≤ k) || match ops[i]? with | some o => (edgesOf o).contains k || ok.apart ops o | none => true
    | none => false
def drawOkT (ops : Array Oper) (m : Nat) (late : List Nat) : Bool :=
  decide (m ≤ ops.size) &&
  (ops.toList.zipIdx.all fun p => (edgesOf p.1).all (fun j => decide (j < p.2)) && (match p.1.guard with | some (j, _) => (edgesOf p.1).contains j | none => true) &&
    (if p.2 < m then p.1.dst.isSome else if p.2 = m then (List.range m).all fun j => (edgesOf p.1).contains j || heldL ops m late j else (edgesOf p.1).any fun j => decide (m ≤ j))) &&
  decide (((ops.toList.take m).filterMap (·.dst)).Nodup) && Region.noSelect ops &&
  (late.all fun j => match ops[j]? with
    | some oj => latePure oj && (ops.toList.zipIdx.all fun p => p.2 == j || !(late.contains p.2 || decide (m ≤ p.2)) || (edgesOf p.1).contains j || oj.apart ops p.1)
    | none => false) && tailOkT ops m

section
variable {C : Ctx} {fr : Fr} {L : LL}
theorem normQ_panic {Q : Post} {c a w} (h : lift C (normQ Q) (.panic c) a w) : False := by
  obtain ⟨_, _, _, h, _⟩ := h; cases h
theorem normQ_out {Q : Post} {a w} (h : lift C (normQ Q) .outgrown a w) : False := by
  obtain ⟨_, _, _, h, _⟩ := h; cases h
theorem edges_ltT {ops : Array Oper} {m : Nat} {late : List Nat} (hok : drawOkT ops m late = true) {i : Nat} {o : Oper} (ho : ops[i]? = some o) : (∀ j ∈ edgesOf o, j < i) ∧ (∀ j b, o.guard = some (j, b) → j ∈ edgesOf o) ∧ (i < m → o.dst.isSome = true) ∧ (m = i → ∀ j, j < m → j ∈ edgesOf o ∨ j ∈ late ∨ ∃ k ok, k < m ∧ k ∉ late ∧ ops[k]? = some ok ∧ j ∈ edgesOf ok) ∧ (m < i → ∃ j ∈ edgesOf o, m ≤ j) := by
  unfold drawOkT at hok
  simp only [Bool.and_eq_true] at hok
  obtain ⟨⟨⟨⟨⟨h0, hall⟩, hn⟩, hns⟩, hl⟩, htk⟩ := hok
  have hmem : (o, i) ∈ ops.toList.zipIdx := by
    rw [List.mem_iff_getElem?]
    exact ⟨i, by simp [ho]⟩
  have h := List.all_eq_true.1 hall _ hmem
  simp only [Bool.and_eq_true] at h
  obtain ⟨⟨h1, h2⟩, h3⟩ := h
  refine ⟨fun j hj => by simpa using List.all_eq_true.1 h1 j hj, fun j b hg => ?_, fun hi => ?_, fun hi j hj => ?_, fun hi => ?_⟩
  · rw [hg] at h2; simpa using h2
  · rw [if_pos hi] at h3; exact h3
  · rw [if_neg (by omega), if_pos hi.symm] at h3
    have := List.all_eq_true.1 h3 j (by simpa using hj)
    simp only [Bool.or_eq_true, List.contains_eq_mem, decide_eq_true_eq] at this
    rcases this with h | h5
    · exact .inl h
    · refine .inr ?_
      unfold heldL at h5
      simp only [Bool.or_eq_true, List.contains_eq_mem, decide_eq_true_eq] at h5
      rcases h5 with h5 | h5
      · exact .inl h5
      · obtain ⟨k, hk1, hk2⟩ := List.any_eq_true.1 h5
        simp only [Bool.and_eq_true, Bool.not_eq_true', decide_eq_false_iff_not] at hk2
        obtain ⟨hk2, hk3⟩ := hk2
        split at hk3
        · rename_i ok hok
          exact .inr ⟨k, ok, by simpa using hk1, hk2, hok, by simpa using hk3⟩
        · cases hk3
  · rw [if_neg (by omega), if_neg (by omega)] at h3
    simpa using h3

theorem drawOkT_parts {ops : Array Oper} {m : Nat} {late : List Nat} (hok : drawOkT ops m late = true) : m ≤ ops.size ∧ ((ops.toList.take m).filterMap (·.dst)).Nodup ∧ Region.noSelect ops = true ∧
    (∀ i oi, i ∈ late → ops[i]? = some oi → latePure oi = true ∧ ∀ j oj, ops[j]? = some oj → j ≠ i → (j ∈ late ∨ m ≤ j) → i ∉ edgesOf oj → oi.apart ops oj = true) ∧ tailOkT ops m = true := by
  unfold drawOkT at hok
  simp only [Bool.and_eq_true, decide_eq_true_eq] at hok
  obtain ⟨⟨⟨⟨⟨h0, hall⟩, hn⟩, hns⟩, hl⟩, htk⟩ := hok
  refine ⟨h0, hn, hns, fun i oi hi hoi => ?_, htk⟩
  have := List.all_eq_true.1 hl i hi
  rw [hoi] at this
  simp only [Bool.and_eq_true] at this
  refine ⟨this.1, fun j oj hj hji hjm hno => ?_⟩
  have h2 := List.all_eq_true.1 this.2 (oj, j) (by
    rw [List.mem_iff_getElem?]
    exact ⟨j, by simp [hj]⟩)
  simp only [Bool.or_eq_true, beq_iff_eq, Bool.not_eq_true', Bool.or_eq_false_iff, List.contains_eq_mem, decide_eq_true_eq, decide_eq_false_iff_not] at h2
  rcases h2 with ((h2 | h2) | h2) | h2
  · exact (hji h2).elim
  · rcases hjm with h3 | h3
    · exact (h2.1 h3).elim
    · exact (h2.2 h3).elim
  · exact (hno h2).elim
  · exact h2


theorem draw_tailT {ops : Array Oper} {m : Nat} {Q : Post} (hed : ∀ i o, ops[i]? = some o → ∀ j ∈ edgesOf o, j < i) (htk : tailOkT ops m = true) (hns : Region.noSelect ops = true) :
    ∀ (r : Nat) (k : Nat) (listed : Array Bool) (a : Act) (w : World), ops.size = k + r → m ≤ k → listed.size = ops.size → (∀ i, i < ops.size → listed.getD i false = decide (i < k)) →
      wpList C.P ops (lift C (normQ Q)) (ops.toList.drop k) a w → ∀ fuel, r ≤ fuel → wpAny C.P .any ops (lift C (normQ Q)) fuel listed a w
  | 0, k, listed, a, w, hk, hm, hls, hl, hw, fuel, _ => by
    rw [List.drop_eq_nil_of_le (by simp; omega)] at hw
    have hq : lift C (normQ Q) .normal a w := hw
    have hre : Region.ready .any ops listed = [] := by
      apply List.eq_nil_iff_forall_not_mem.2
      intro i hi
      obtain ⟨h1, h2, _⟩ := mem_ready'.1 hi
      have := hl i h1
      rw [Array.getD_eq_getD_getElem?, Array.getElem?_eq_getElem (by omega)] at this h2
      simp only [Option.getD_some] at this h2
      rw [h2] at this
      have := of_decide_eq_false this.symm
      omega
    cases fuel with
    | zero => exact ⟨hre, hq⟩
    | succ fuel => exact ⟨fun _ => hq, fun i hi => by rw [hre] at hi; cases hi⟩
  | r + 1, k, listed, a, w, hk, hm, hls, hl, hw, fuel + 1, hf => by
    have hklt : k < ops.size := by omega
    have hgk : ops[k]? = some ops[k] := Array.getElem?_eq_getElem hklt
    have hdrop : ops.toList.drop k = ops[k] :: ops.toList.drop (k + 1) := by
      rw [← List.getElem_cons_drop (by simpa using hklt)]; simp
    rw [hdrop] at hw
    have hop0 : wpOp C.P ops (lift C (normQ Q)) k (wpList C.P ops (lift C (normQ Q)) (ops.toList.drop (k + 1))) a w := by
      unfold wpOp
      rw [hgk]
      exact hw
    have hset : ∀ j, j < ops.size → (listed.setIfInBounds k true).getD j false = decide (j < k + 1) := fun j hj => by
      rw [Array.getD_eq_getD_getElem?, Array.getElem?_setIfInBounds]
      by_cases hij : k = j
      · subst hij; simp [hls, hj]
      · rw [if_neg hij]
        have := hl j hj
        rw [Array.getD_eq_getD_getElem?] at this
        rw [this]
        congr 1
        exact propext ⟨fun h => by omega, fun h => by omega⟩
    have hop : wpOp C.P ops (lift C (normQ Q)) k (wpAny C.P .any ops (lift C (normQ Q)) fuel (listed.setIfInBounds k true)) a w :=
      wpOp_mono (fun a' w' h' => draw_tailT hed htk hns r (k + 1) (listed.setIfInBounds k true) a' w' (by omega) (by omega) (by simp [hls]) hset h' fuel (by omega)) hop0
    have hkready : k ∈ Region.ready .any ops listed := by
      refine mem_ready'.2 ⟨hklt, ?_, _, hgk, fun j hj => ?_⟩
      · have := hl k hklt
        rw [Array.getD_eq_getD_getElem?, Array.getElem?_eq_getElem (by omega)] at this ⊢
        simpa using this
      · have hjk := hed _ _ hgk j hj
        rw [hl j (by omega)]; simpa using hjk
    have hge : ∀ i, i < ops.size → listed.getD i true = false → k ≤ i := fun i hi h2 => by
      have := hl i hi
      rw [Array.getD_eq_getD_getElem?, Array.getElem?_eq_getElem (by omega)] at this h2
      simp only [Option.getD_some] at this h2
      rw [h2] at this
      have := of_decide_eq_false this.symm
      omega
    unfold tailOkT at htk
    have htk' := List.all_eq_true.1 htk k (by simpa using hklt)
    simp only [Bool.or_eq_true, decide_eq_true_eq] at htk'
    rcases htk' with (h1 | h1) | h1
    · omega
    · refine ⟨fun he => by (rw [he] at hkready; exact absurd hkready (by simp)), fun i hi => ?_⟩
      obtain ⟨g1, g2, o, ho1, ho2⟩ := mem_ready'.1 hi
      have hki := hge i g1 g2
      have hik : i = k := by
        rcases Nat.eq_or_lt_of_le hki with h3 | h3
        · exact h3.symm
        · have h4 := List.all_eq_true.1 h1 i (by simpa using g1)
          rw [ho1] at h4
          simp only [Bool.or_eq_true, decide_eq_true_eq] at h4
          rcases h4 with h4 | h4
          · omega
          · obtain ⟨j, hj, hjk⟩ := List.any_eq_true.1 h4
            have hjk : k ≤ j := by simpa using hjk
            have hji := hed _ _ ho1 j hj
            have := ho2 j hj
            rw [hl j (by omega)] at this
            have := of_decide_eq_true this
            omega
      subst hik
      exact hop
    · rw [hgk] at h1
      simp only [Bool.and_eq_true] at h1
      obtain ⟨v, hy, hK⟩ := late_yields hgk h1.1 hop (fun c a w hh => normQ_panic hh) (fun ⟨_, _, hh⟩ => normQ_out hh)
      refine wpAny_first hgk (Region.noSelect_spec hns) (fun c a w hh => (normQ_panic hh).elim) fuel listed a w (fun j oj hj hjk hjl hno => ?_) hkready hy hK
      have hjs := (Array.getElem?_eq_some_iff.1 hj).1
      have h4 := List.all_eq_true.1 h1.2 j (by simpa using hjs)
      rw [hj] at h4
      simp only [Bool.or_eq_true, decide_eq_true_eq, List.contains_eq_mem] at h4
      have hkj := hge j hjs hjl
      rcases h4 with h4 | h4 | h4
      · omega
      · exfalso
        obtain ⟨e, he, hee⟩ := List.mem_map.1 h4
        obtain ⟨he1, he2⟩ := List.mem_filter.1 he
        exact hno e (by simpa using he1) he2 hee
      · exact h4
theorem W_drawT {B : Code} {p : List Nat} {Q : Post} (m : Nat) (late : List Nat) {out : List (Nat × AV)} (hdr : isDraw (nav B p) = true)
    (hm : C.P.follows .mixedOrders = true) (hok : (drawOkT (opsOf (nav B p)) m late && dstOk C.n (opsOf (nav B p)) && once fr) = true) (houtlen : out.length = m)
    (hent0 : ∀ i o, i < m → (opsOf (nav B p))[i]? = some o → ∃ d av, o.dst = some d ∧ out[i]? = some (d, av) ∧ Drawn C (opsOf (nav B p)) i d av (pick (out.take i) (edgesOf o) ++ baseFr (opsOf (nav B p)) m fr) L ∧
      (∀ g b x, av = .mb g b x → ∃ j, o.guard = some (j, b) ∧ guardSlot (opsOf (nav B p)) j = some g))
    (hn : WO C (opsOf (nav B p)) m (normQ Q) (out ++ baseFr (opsOf (nav B p)) m fr) L) : W C (nav B p) Q fr L := by
  simp only [Bool.and_eq_true] at hok
  obtain ⟨⟨hok, hdok⟩, honce⟩ := hok
  generalize hops : opsOf (nav B p) = ops at *
  intro a w hr
  cases hc : nav B p <;> simp only [hc, isDraw, Bool.false_eq_true] at hdr
  rename_i id ops' d
  rw [hc] at hops
  simp only [opsOf] at hops
  subst hops hdr
  · obtain ⟨hmle, hnodup, hnosel, hlate, htailok⟩ := drawOkT_parts hok
    have hedge : ∀ i o, ops'[i]? = some o → ∀ j ∈ edgesOf o, j < i := fun i o ho => (edges_ltT hok ho).1
    have hent : ∀ i o, i < m → ops'[i]? = some o → ∃ d av, o.dst = some d ∧ out[i]? = some (d, av) ∧ Drawn C ops' i d av (pick (out.take i) (edgesOf o) ++ baseFr ops' m fr) L ∧
      (∀ g b x, av = .mb g b x → ∃ j, o.guard = some (j, b) ∧ guardSlot ops' j = some g) := hent0
    -- two quiet operations write two slots
    have hdist : ∀ i j d av av', i < m → j < m → out[i]? = some (d, av) → out[j]? = some (d, av') → i = j := by
      intro i j d av av' hi hj h1 h2
      have key : ∀ k, k < m → ∃ o, ops'[k]? = some o ∧ ∃ d av, o.dst = some d ∧ out[k]? = some (d, av) := by
        intro k hk
        refine ⟨ops'[k], Array.getElem?_eq_getElem (by omega), ?_⟩
        obtain ⟨d, av, h1, h2, _⟩ := hent k _ hk (Array.getElem?_eq_getElem (by omega))
        exact ⟨d, av, h1, h2⟩
      have hds : (ops'.toList.take m).filterMap (·.dst) = out.map (·.1) := by
        apply List.ext_getElem?
        intro k
        have hall : ∀ o ∈ ops'.toList.take m, o.dst.isSome = true := by
          intro o ho
          obtain ⟨k, hk, rfl⟩ := List.getElem_of_mem ho
          have hkm : k < m := by simp at hk; omega
          obtain ⟨o', ho', d, av, hd, _⟩ := key k hkm
          have : ops'[k]? = some ops'[k] := Array.getElem?_eq_getElem (by omega)
          rw [this] at ho'
          obtain rfl := Option.some.inj ho'
          simp [hd]
        have hfm : ∀ (l : List Oper), (∀ o ∈ l, o.dst.isSome = true) → l.filterMap (·.dst) = l.map fun o => o.dst.getD 0 := by
          intro l
          induction l with
          | nil => intro _; rfl
          | cons o l ih =>
            intro hl
            have := hl o (by simp)
            cases hod : o.dst with
            | none => rw [hod] at this; simp at this
            | some d => simp [hod, ih (fun x hx => hl x (by simp [hx]))]
        rw [hfm _ hall]
        by_cases hk : k < m
        · obtain ⟨o', ho', d, av, hd, hout⟩ := key k hk
          simp [List.getElem?_take_of_lt hk, ho', hd, hout]
        · rw [List.getElem?_eq_none (by simp; omega), List.getElem?_eq_none (by simp; omega)]
      rw [hds] at hnodup
      have hi' : i < (out.map (·.1)).length := by simp; omega
      have hj' : j < (out.map (·.1)).length := by simp; omega
      have e1 : (out.map (·.1))[i] = d := by
        have : (out.map (·.1))[i]? = some d := by simp [h1]
        rw [List.getElem?_eq_getElem hi'] at this
        exact Option.some.inj this
      have e2 : (out.map (·.1))[j] = d := by
        have : (out.map (·.1))[j]? = some d := by simp [h2]
        rw [List.getElem?_eq_getElem hj'] at this
        exact Option.some.inj this
      exact (List.getElem_inj hnodup).1 (e1.trans e2.symm)
    have hdstin : ∀ i d av, i < m → out[i]? = some (d, av) → d ∈ (ops'.toList.take m).filterMap (·.dst) := by
      intro i d av hi h1
      obtain ⟨d', av', h2, h3, _⟩ := hent i ops'[i] hi (Array.getElem?_eq_getElem (by omega))
      rw [h1] at h3
      simp only [Option.some.injEq, Prod.mk.injEq] at h3
      obtain ⟨rfl, rfl⟩ := h3
      refine List.mem_filterMap.2 ⟨ops'[i], ?_, h2⟩
      rw [List.mem_iff_getElem?]
      exact ⟨i, by rw [List.getElem?_take_of_lt hi]; simp⟩
    -- the quiet phase
    have quiet : ∀ (fuel : Nat) (listed : Array Bool) (a : Act) (w : World), listed.size = ops'.size → (∀ i, m ≤ i → i < ops'.size → listed.getD i false = false) →
        (∀ i o, i < m → ops'[i]? = some o → listed.getD i false = true → ∀ j ∈ edgesOf o, listed.getD j false = true) →
        (∃ h ρ, Half C m (baseFr ops' m fr) L out listed h ρ a w) → ops'.size ≤ fuel + ((List.range ops'.size).filter fun i => listed.getD i false).length → wpAny C.P .any ops' (lift C (normQ Q)) fuel listed a w := by
      intro fuel
      induction fuel with
      | zero =>
        intro listed a w hls htl hdc ⟨h, ρ, hhalf⟩ hcount
        -- all is listed
        have hall : ∀ i, i < ops'.size → listed.getD i false = true := by
          intro i hi
          have hlen : ((List.range ops'.size).filter fun i => listed.getD i false).length = (List.range ops'.size).length := by
            have := List.length_filter_le (fun i => listed.getD i false) (List.range ops'.size)
            simp at this hcount ⊢; omega
          have := List.length_filter_eq_length_iff.1 hlen i (by simpa using hi)
          simpa using this
        have hms : m = ops'.size := by
          rcases Nat.lt_or_ge m ops'.size with hlt | hge
          · have := htl m (Nat.le_refl _) hlt; rw [hall m hlt] at this; cases this
          · omega
        have hrelF := hhalf.frame out (fun x hx => by
          obtain ⟨j, hj, rfl⟩ := List.getElem_of_mem hx
          exact ⟨j, by omega, hall j (by omega), List.getElem?_eq_getElem hj⟩)
        exact draw_tailT hedge htailok hnosel (ops'.size - m) m listed a w (by omega) (Nat.le_refl _) hls (fun i hi => by rw [hall i hi]; symm; exact decide_eq_true (by omega)) (hn a w ⟨h, ρ, hrelF⟩) 0 (by omega)
      | succ fuel ih =>
        intro listed a w hls htl hdc ⟨h, ρ, hhalf⟩ hcount
        by_cases hdone : ∀ i, i < m → listed.getD i false = true
        · -- over to the tail
          have hrelF := hhalf.frame out (fun x hx => by
            obtain ⟨j, hj, rfl⟩ := List.getElem_of_mem hx
            exact ⟨j, by omega, hdone j (by omega), List.getElem?_eq_getElem hj⟩)
          have hlk : ∀ i, i < ops'.size → listed.getD i false = decide (i < m) := by
            intro i hi
            by_cases him : i < m
            · rw [hdone i him]; simp [him]
            · rw [htl i (by omega) hi]; simp [him]
          have hcnt : ((List.range ops'.size).filter fun i => listed.getD i false).length ≤ m := by
            have h1 : (List.range ops'.size).filter (fun i => listed.getD i false) = (List.range ops'.size).filter (fun i => decide (i < m)) := by
              apply List.filter_congr
              intro i hi
              exact hlk i (by simpa using hi)
            rw [h1]
            have h2 : (List.range ops'.size).filter (fun i => decide (i < m)) = List.range m := by
              have : ops'.size = m + (ops'.size - m) := by omega
              rw [this, List.range_add, List.filter_append]
              have e1 : (List.range m).filter (fun i => decide (i < m)) = List.range m := List.filter_eq_self.2 (by simp)
              have e2 : ((List.range (ops'.size - m)).map (m + ·)).filter (fun i => decide (i < m)) = [] := List.filter_eq_nil_iff.2 (by simp)
              rw [e1, e2]; simp
            rw [h2]; simp
          exact draw_tailT hedge htailok hnosel (ops'.size - m) m listed a w (by omega) (Nat.le_refl _) hls hlk (hn a w ⟨h, ρ, hrelF⟩) (fuel + 1) (by omega)
        · -- some quiet operation is still to come
          obtain ⟨i0, hi0, hi0l⟩ : ∃ i, i < m ∧ listed.getD i false = false := by
            simp only [Classical.not_forall, Bool.not_eq_true] at hdone
            obtain ⟨i, hi, hil⟩ := hdone; exact ⟨i, hi, hil⟩
          have gd : ∀ i b, i < ops'.size → listed.getD i b = listed.getD i false := by
            intro i b hi
            rw [Array.getD_eq_getD_getElem?, Array.getD_eq_getD_getElem?, Array.getElem?_eq_getElem (by omega)]; rfl
          have hnonempty : Region.ready .any ops' listed ≠ [] := by
            -- the least one that is not listed
            have hex : ∃ i, i < ops'.size ∧ listed.getD i false = false ∧ ∀ j, j < i → listed.getD j false = true := by
              obtain ⟨k, ⟨hk1, hk2⟩, hk3⟩ := least_of (p := fun i => i < ops'.size ∧ listed.getD i false = false) i0 ⟨by omega, hi0l⟩
              refine ⟨k, hk1, hk2, fun j hj => ?_⟩
              have := hk3 j hj
              cases hq : listed.getD j false with
              | true => rfl
              | false => exact (this ⟨by omega, hq⟩).elim
            obtain ⟨k, hk1, hk2, hk3⟩ := hex
            intro hempty
            have : k ∈ Region.ready .any ops' listed := mem_ready'.2 ⟨hk1, by rw [gd k _ hk1]; exact hk2, ops'[k], Array.getElem?_eq_getElem hk1, fun j hj => hk3 j ((edges_ltT hok (Array.getElem?_eq_getElem hk1)).1 j hj)⟩
            rw [hempty] at this; cases this
          have one : ∀ i, i ∈ Region.ready .any ops' listed → i < m → wpOp C.P ops' (lift C (normQ Q)) i (wpAny C.P .any ops' (lift C (normQ Q)) fuel (listed.setIfInBounds i true)) a w := by
           intro i hi him
           obtain ⟨h1, h2, o, ho1, ho2'⟩ := mem_ready'.1 hi
           rw [gd i _ h1] at h2
           obtain ⟨d, av, hd1, hout, hdrawn, _⟩ := hent i o him ho1
           have hdn : d < C.n := by
             have := List.all_eq_true.1 hdok o (by simpa using Array.mem_of_getElem? ho1)
             rw [hd1] at this; simpa using this
           -- the frame of those that it waits for
           have hrelI := hhalf.frame (pick (out.take i) (edgesOf o)) (fun x hx => by
             obtain ⟨j, hj, hxj⟩ := mem_pick _ _ _ hx
             have hjlt := (edges_ltT hok ho1).1 j hj
             rw [List.getElem?_take_of_lt hjlt] at hxj
             exact ⟨j, by omega, ho2' j hj, hxj⟩)
           -- what becomes of it
           have next : ∀ (h' : Heap) (v : Value) (w' : World), Ext h h' → (∀ frx, RelH C h ρ frx L a w → RelH C h' ρ frx L a w') → VRel h' ρ (a.tmps.setIfInBounds d v) av v → wpAny C.P .any ops' (lift C (normQ Q)) fuel (listed.setIfInBounds i true) (a.put (some d) v) w' := by
             intro h' v w' hext hlift hv
             refine ih (listed.setIfInBounds i true) _ w' (by simp [hls]) ?_ ?_ ?_ ?_
             · intro k hk hk2
               rw [Array.getD_eq_getD_getElem?, Array.getElem?_setIfInBounds, if_neg (by omega), ← Array.getD_eq_getD_getElem?]
               exact htl k hk hk2
             · intro k ok hk hok' hkl j hj
               have old : listed.getD j false = true → (listed.setIfInBounds i true).getD j false = true := by
                 intro hjl
                 rw [Array.getD_eq_getD_getElem?, Array.getElem?_setIfInBounds]
                 split
                 · rename_i hij; subst hij; simp [hls, h1]
                 · rw [← Array.getD_eq_getD_getElem?]; exact hjl
               by_cases hik : i = k
               · subst hik
                 rw [ho1] at hok'
                 obtain rfl := Option.some.inj hok'
                 exact old (ho2' j hj)
               · rw [Array.getD_eq_getD_getElem?, Array.getElem?_setIfInBounds, if_neg hik, ← Array.getD_eq_getD_getElem?] at hkl
                 exact old (hdc k ok hk hok' hkl j hj)
             · refine ⟨h', ρ, ?_, ?_⟩
               · refine { (hlift _ hhalf.rel) with size := by simp [Act.put, hhalf.rel.size], defers := hhalf.rel.defers, fr := fun t x hx => ?_ }
                 obtain ⟨hb1, hb2⟩ := base_spec hx
                 obtain ⟨h3, h4⟩ := (hlift _ hhalf.rel).fr t x hx
                 have hne : d ≠ t := by
                   rintro rfl
                   exact hb1 (hdstin i d av him hout)
                 refine ⟨h3, ?_⟩
                 have : (a.put (some d) v).tmps.getD t undef = a.tmps.getD t undef := by
                   simp [Act.put, Array.getD_eq_getD_getElem?, Array.getElem?_setIfInBounds, hne]
                 rw [this]
                 exact h4.anyTm hb2
               · intro k dk avk hk hkl hko
                 by_cases hik : i = k
                 · subst hik
                   rw [hout] at hko
                   simp only [Option.some.injEq, Prod.mk.injEq] at hko
                   obtain ⟨rfl, rfl⟩ := hko
                   refine ⟨hdn, ?_⟩
                   have : (a.put (some d) v).tmps.getD d undef = v := by simp [Act.put, hhalf.rel.size, hdn]
                   rw [this]; exact hv
                 · rw [Array.getD_eq_getD_getElem?, Array.getElem?_setIfInBounds, if_neg hik, ← Array.getD_eq_getD_getElem?] at hkl
                   obtain ⟨h3, h40⟩ := hhalf.done k dk avk hk hkl hko
                   have h4 := h40.mono hext
                   have hne : d ≠ dk := by
                     rintro rfl
                     exact hik (hdist i k d av avk him hk hout hko)
                   refine ⟨h3, ?_⟩
                   have : (a.put (some d) v).tmps.getD dk undef = a.tmps.getD dk undef := by
                     simp [Act.put, Array.getD_eq_getD_getElem?, Array.getElem?_setIfInBounds, hne]
                   rw [this]
                   cases avk with
                   | mb g b x =>
                     intro ht
                     refine h4 ?_
                     -- the slot that it looks at was written before
                     obtain ⟨dk', avk', e1, e2, _, e4⟩ := hent k ops'[k] hk (Array.getElem?_eq_getElem (by omega))
                     rw [hko] at e2
                     simp only [Option.some.injEq, Prod.mk.injEq] at e2
                     obtain ⟨rfl, rfl⟩ := e2
                     obtain ⟨j, hgd, hgs⟩ := e4 g b x rfl
                     have hjE := (edges_ltT hok (Array.getElem?_eq_getElem (show k < ops'.size by omega))).2.1 j b hgd
                     have hjl := hdc k ops'[k] hk (Array.getElem?_eq_getElem (by omega)) hkl j hjE
                     have hjlt := (edges_ltT hok (Array.getElem?_eq_getElem (show k < ops'.size by omega))).1 j hjE
                     have hgd' : d ≠ g := by
                       intro hdg0
                       unfold guardSlot at hgs
                       obtain ⟨oj, hoj, hdj⟩ := Option.bind_eq_some_iff.1 hgs
                       obtain ⟨dj, avj, f1, f2, _⟩ := hent j oj (by omega) hoj
                       rw [hdj, ← hdg0] at f1
                       rw [← Option.some.inj f1] at f2
                       have := hdist i j d av avj him (by omega) hout f2
                       subst this
                       rw [h2] at hjl; cases hjl
                     have : (a.put (some d) v).tmps[g]? = a.tmps[g]? := by
                       simp [Act.put, Array.getElem?_setIfInBounds, hgd']
                     rw [this] at ht; exact ht
                   | _ => exact h4
             · have : ((List.range ops'.size).filter fun k => (listed.setIfInBounds i true).getD k false).length = ((List.range ops'.size).filter fun k => listed.getD k false).length + 1 := by
                 have hset : ∀ k, k < ops'.size → (listed.setIfInBounds i true).getD k false = (decide (k = i) || listed.getD k false) := by
                   intro k hk
                   rw [Array.getD_eq_getD_getElem?, Array.getElem?_setIfInBounds]
                   by_cases hik : i = k
                   · subst hik; simp [hls, h1]
                   · rw [if_neg hik, ← Array.getD_eq_getD_getElem?]; simp [Ne.symm hik]
                 rw [List.filter_congr (q := fun k => decide (k = i) || listed.getD k false) (fun k hk => hset k (by simpa using hk))]
                 exact count_one ops'.size i (fun k => listed.getD k false) h1 h2
               rw [this]; omega
           exact hdrawn h ρ a w hrelI _ _ (fun h' v w' e1 e2 e3 => next h' v w' e1 (fun frx => e2 frx L (fun _ _ e => e)) e3)
          by_cases hl8 : ∀ i, i < m → listed.getD i false = false → i ∈ late
          · obtain ⟨k, ⟨hk1, hk2⟩, hk3⟩ := least_of (p := fun i => i < m ∧ listed.getD i false = false) i0 ⟨hi0, hi0l⟩
            have hk3' : ∀ j, j < k → listed.getD j false = true := by
              intro j hj
              have := hk3 j hj
              cases hq : listed.getD j false with
              | true => rfl
              | false => exact (this ⟨by omega, hq⟩).elim
            have hkop : ops'[k]? = some ops'[k] := Array.getElem?_eq_getElem (by omega)
            have hkr : k ∈ Region.ready .any ops' listed := mem_ready'.2 ⟨by omega, by rw [gd k _ (by omega)]; exact hk2, ops'[k], hkop, fun j hj => hk3' j ((edges_ltT hok hkop).1 j hj)⟩
            obtain ⟨hlp, hap⟩ := hlate k ops'[k] (hl8 k hk1 hk2) hkop
            obtain ⟨v, hy, hK⟩ := late_yields hkop hlp (one k hkr hk1) (fun c a w hh => normQ_panic hh) (fun ⟨_, _, hh⟩ => normQ_out hh)
            refine wpAny_first hkop (Region.noSelect_spec hnosel) (fun c a w hh => (normQ_panic hh).elim) fuel listed a w (fun j oj hj hjk hjl hno => ?_) hkr hy hK
            have hjs := (Array.getElem?_eq_some_iff.1 hj).1
            rw [gd j _ hjs] at hjl
            refine hap j oj hj hjk ?_ (fun hme => ?_)
            · rcases Nat.lt_or_ge j m with h3 | h3
              · exact .inl (hl8 j h3 hjl)
              · exact .inr h3
            · obtain ⟨e, he, hee⟩ := List.mem_map.1 hme
              obtain ⟨he1, he2⟩ := List.mem_filter.1 he
              exact hno e (by simpa using he1) he2 hee
          · obtain ⟨i1, hi1, hi1l, hi1n⟩ : ∃ i, i < m ∧ listed.getD i false = false ∧ i ∉ late := by
              simp only [Classical.not_forall] at hl8
              obtain ⟨i, x1, x2, x3⟩ := hl8; exact ⟨i, x1, x2, x3⟩
            refine ⟨fun e => (hnonempty e).elim, fun i hi => ?_⟩
            obtain ⟨h1, h2, o, ho1, ho2'⟩ := mem_ready'.1 hi
            refine one i hi ?_
            rcases Nat.lt_or_ge i m with h3 | h3
            · exact h3
            · exfalso
              have h3m : m = i := by
                rcases Nat.lt_or_ge m i with h4 | h4
                · obtain ⟨j, hj, hjm⟩ := (edges_ltT hok ho1).2.2.2.2 h4
                  have hjs := (edges_ltT hok ho1).1 j hj
                  have := ho2' j hj
                  rw [htl j hjm (by omega)] at this; cases this
                · omega
              have all : ∀ d j, m - j ≤ d → j < m → j ∉ late → listed.getD j false = true := by
                intro d
                induction d with
                | zero => intro j h4 h5; omega
                | succ d ihd =>
                  intro j h4 h5 h6
                  rcases (edges_ltT hok ho1).2.2.2.1 h3m j (by omega) with h7 | h7 | ⟨k, ok, k1, k2, k3, k4⟩
                  · exact ho2' j h7
                  · exact (h6 h7).elim
                  · have := (edges_ltT hok k3).1 j k4
                    exact hdc k ok k1 k3 (ihd k (by omega) k1 k2) j k4
              have := all m i1 (by omega) hi1 hi1n
              rw [hi1l] at this; cases this
    refine wp_mono (Q := lift C (normQ Q)) (wp_region_any hm (quiet ops'.size _ a _ (by simp) (fun i _ hi => by simp [Array.getD_eq_getD_getElem?, hi]) (fun i o hi ho hl => ?_) ?_ (by omega))) (fun e a w hh => by obtain ⟨f, l, q1, _, q2⟩ := hh; exact ⟨f, l, q1, q2⟩)
    · rw [Array.getD_eq_getD_getElem?] at hl
      simp [show i < ops'.size by omega] at hl
    · obtain ⟨h, ρ, hr'⟩ := hr.drawn
      refine ⟨h, ρ, { hr' with fr := base_get (fun p hp => hr'.fr p.1 p.2 (once_get honce hp)) }, fun i d av hi hl => ?_⟩
      rw [Array.getD_eq_getD_getElem?] at hl
      simp [show i < ops'.size by omega] at hl


theorem W_drawT5 {B : Code} {p : List Nat} {Q : Post} {fr' : Fr} {L' : LL} (m : Nat) (late : List Nat) (orcs : List (Nat × Orc)) (cs : List (Nat × List (Option Ty) × AV)) (kF kL : List Nat) {out : List (Nat × AV)} {obs : List Prop} {calls : List (Nat × List AV × AV)} (hdr : isDraw (nav B p) = true)
    (hm : C.P.follows .mixedOrders = true) (hok : (drawOkT (opsOf (nav B p)) m late && dstOk C.n (opsOf (nav B p)) && once fr) = true)
    (he : ents3 C.P (opsOf (nav B p)) (baseFr (opsOf (nav B p)) m fr) L orcs cs 0 ((opsOf (nav B p)).toList.take m) [] = some (out, obs, calls)) (ho : AllP obs) (hc : AllD C.P L calls)
    (hk : restr kF kL (out ++ baseFr (opsOf (nav B p)) m fr) L = some (fr', L')) (hn : WO C (opsOf (nav B p)) m (normQ Q) fr' L') : W C (nav B p) Q fr L := by
  obtain ⟨h1, _, h3⟩ := ents3_spec _ 0 [] out obs calls rfl he ho hc (fun k o hk => by
    rw [Nat.zero_add]
    have : k < m := by
      have := (List.getElem?_eq_some_iff.1 hk).1
      simp at this; omega
    rw [List.getElem?_take_of_lt this] at hk
    simpa using hk) (fun k o d hk hd => by
    simp only [Bool.and_eq_true] at hok
    exact dstOk_spec hok.1.2 hk hd)
  have hmle : m ≤ (opsOf (nav B p)).size := by
    simp only [Bool.and_eq_true] at hok
    exact (drawOkT_parts hok.1.1).1
  refine W_drawT m late hdr hm hok (by rw [h1]; simp; omega) (fun i o hi hoi => ?_) (WO_weaken kF kL hk hn)
  have := h3 i o (by rw [List.getElem?_take_of_lt hi]; simpa using hoi)
  simpa using this
end
end Go.Sl

/- Regions that draw their order, some of whose operations make or use up objects of our own, one behind the other. -/
namespace Go.Sl
open Go

def AV.hit (nm : Nat) : AV → Bool
  | .one x => x.has nm
  | .agg cs => cs.any (SV.has nm)
  | .tup cs => cs.any (SV.has nm)
  | .mb _ _ _ => true
def LObj.hit (nm : Nat) : LObj → Bool
  | .cells cs => cs.any (SV.has nm)
  | _ => false
theorem kill_list {nm : Nat} : ∀ {cs : List SV}, cs.any (SV.has nm) = false → cs.map (SV.kill nm) = cs
  | [], _ => rfl
  | c :: cs, h => by
    simp only [List.any_cons, Bool.or_eq_false_iff] at h
    rw [List.map_cons, kill_list h.2]
    unfold SV.kill
    rw [if_neg (by simp [h.1])]
theorem AV.kill_none {nm : Nat} {v : AV} (h : v.hit nm = false) : v.kill nm = v := by
  cases v with
  | one x =>
    simp only [AV.hit] at h
    simp only [AV.kill, SV.kill, h, Bool.false_eq_true, if_false]
  | agg cs => simp only [AV.kill, kill_list h]
  | tup cs => simp only [AV.kill, kill_list h]
  | mb g b x => simp [AV.hit] at h
theorem AV.unmb_sure {v : AV} (h : v.sure = true) (d : Nat) : v.unmb d = v := by
  cases v <;> first | rfl | simp [AV.sure] at h
theorem LObj.kill_none {nm : Nat} {o : LObj} (h : o.hit nm = false) : o.kill nm = o := by
  cases o with
  | cells cs => simp only [LObj.kill, kill_list h]
  | _ => rfl
def nextL (nm : Nat) (ob : Option LObj) (L : LL) : LL := match ob with | some o => newL nm o L | none => mapv (LObj.kill nm) (del L nm)
theorem get_nextL {nm : Nat} {ob : Option LObj} {L : LL} {s : Nat} {o : LObj} (h : get L s = some o) (hn : s ≠ nm) (hh : o.hit nm = false) : get (nextL nm ob L) s = some o := by
  unfold nextL
  cases ob with
  | some p => rw [get_newL, if_neg (Ne.symm hn), h, Option.map_some, LObj.kill_none hh]
  | none => rw [get_mapv, get_del, if_neg (Ne.symm hn), h, Option.map_some, LObj.kill_none hh]
theorem get_killF {nm : Nat} {F : Fr} {t : Nat} {v : AV} (h : get F t = some v) (hh : v.hit nm = false) : get (killF nm F) t = some v := by
  unfold killF
  rw [get_mapv, h, Option.map_some, AV.kill_none hh]
theorem get_putF {F : Fr} {d t : Nat} {av v : AV} (h : get F t = some v) (hs : v.sure = true) (hne : t ≠ d) : get (putF F d av) t = some v := by
  unfold putF
  simp only [get]
  rw [if_neg (Ne.symm hne), get_mapv, get_del, if_neg (Ne.symm hne), h, Option.map_some, AV.unmb_sure hs]
theorem get_putF_self {F : Fr} {d : Nat} {av : AV} : get (putF F d av) d = some av := by
  unfold putF
  simp [get]

/-- the steps of the chain: number, name that is used up, object behind it -/
abbrev Chain := List (Nat × Nat × Option LObj)
def Chain.hits (ch : Chain) (a b : Nat) (v : AV) : Bool := ((ch.drop a).take (b - a)).any fun c => v.hit c.2.1
def Chain.start (ch : Chain) (i : Nat) : Nat := match ch.findIdx? (fun c => c.1 == i) with | some q => q + 1 | none => 0
def Chain.at (ch : Chain) (k : Nat) (L : LL) : LL := (ch.take k).foldl (fun L c => nextL c.2.1 c.2.2 L) L
/-- the step that waits for i, or the end -/
def Chain.upto (ch : Chain) (ops : Array Oper) (i : Nat) : Nat := match ch.findIdx? (fun c => c.1 == i || match ops[c.1]? with | some o => (edgesOf o).contains i | none => false) with | some q => q | none => ch.length
def frC (ch : Chain) (out : List (Nat × AV)) (base : Fr) (js : List Nat) (k : Nat) : Fr :=
  (js.filterMap fun j => (out[j]?).bind fun e => if ch.hits (ch.start j) k e.2 then none else some e) ++ base.filter fun e => !ch.hits 0 k e.2
def LLq (ch : Chain) (k : Nat) (L : LL) : LL := L.filter fun e => (ch.take k).all fun c => !(e.1 == c.2.1) && !e.2.hit c.2.1

section
variable {C : Ctx} {fr : Fr} {L : LL}
def CStep (C : Ctx) (ops : Array Oper) (i d nm : Nat) (ob : Option LObj) (av : AV) (frI : Fr) (L : LL) : Prop :=
  ∀ F a w, (∀ p ∈ frI, get F p.1 = some p.2) → Rel C F L a w → ∀ (Q : Exit → Act → World → Prop) (K : Act → World → Prop),
    (∀ a' w', Rel C (putF (killF nm F) d av) (nextL nm ob L) a' w' → K a' w') → wpOp C.P ops Q i K a w

theorem Rel.cover {F F' : Fr} {a : Act} {w : World} (hr : Rel C F L a w) (h : ∀ p ∈ F', get F p.1 = some p.2) : Rel C F' L a w := by
  obtain ⟨hh, ρ, hr⟩ := hr
  exact ⟨hh, ρ, { hr with fr := fun t v ht => hr.fr t v (h (t, v) (get_mem _ _ _ ht)) }⟩
theorem chain_at_get {ch : Chain} : ∀ (k : Nat) {L : LL} {s : Nat} {o : LObj}, get L s = some o → (∀ c ∈ ch.take k, s ≠ c.2.1 ∧ o.hit c.2.1 = false) → get (ch.at k L) s = some o := by
  intro k
  unfold Chain.at
  generalize ch.take k = l
  induction l with
  | nil => intro L s o h _; exact h
  | cons c l ih =>
    intro L s o h hc
    rw [List.foldl_cons]
    exact ih (get_nextL h (hc c (by simp)).1 (hc c (by simp)).2) (fun c' hc' => hc c' (by simp [hc']))
theorem onceL_get {L : LL} (h : (L.map (·.1)).Nodup) {p : Nat × LObj} (hp : p ∈ L) : get L p.1 = some p.2 := by
  induction L with
  | nil => cases hp
  | cons q L ih =>
    obtain ⟨k, v⟩ := q
    simp only [List.map_cons, List.nodup_cons] at h
    rcases List.mem_cons.1 hp with rfl | hp
    · simp [get]
    · have hne : k ≠ p.1 := fun e => h.1 (e ▸ List.mem_map.2 ⟨p, hp, rfl⟩)
      simp only [get]
      rw [if_neg hne]
      exact ih h.2 hp
theorem LLq_cover {ch : Chain} {k K : Nat} (hk : k ≤ K) {L : LL} (h : (L.map (·.1)).Nodup) : ∀ s o, get (LLq ch K L) s = some o → get (ch.at k L) s = some o := by
  intro s o hs
  have hm := get_mem _ _ _ hs
  unfold LLq at hm
  obtain ⟨h1, h2⟩ := List.mem_filter.1 hm
  refine chain_at_get k (onceL_get h h1) (fun c hc => ?_)
  have hc' : c ∈ ch.take K := by
    have : ch.take k = (ch.take K).take k := by rw [List.take_take]; congr 1; omega
    rw [this] at hc
    exact List.mem_of_mem_take hc
  have := List.all_eq_true.1 h2 c hc'
  simp only [Bool.and_eq_true, Bool.not_eq_true', beq_eq_false_iff_ne] at this
  exact this
theorem hits_mono {ch : Chain} {a k K : Nat} {v : AV} (hk : k ≤ K) (h : ch.hits a K v = false) : ch.hits a k v = false := by
  unfold Chain.hits at h ⊢
  rw [List.any_eq_false] at h ⊢
  intro c hc
  refine h c ?_
  have : (ch.drop a).take (k - a) = ((ch.drop a).take (K - a)).take (k - a) := by rw [List.take_take]; congr 1; omega
  rw [this] at hc
  exact List.mem_of_mem_take hc
theorem hits_step {ch : Chain} {a k : Nat} {v : AV} {c : Nat × Nat × Option LObj} (hc : ch[k]? = some c) (ha : a ≤ k) (h : ch.hits a (k + 1) v = false) : ch.hits a k v = false ∧ v.hit c.2.1 = false := by
  refine ⟨hits_mono (by omega) h, ?_⟩
  unfold Chain.hits at h
  rw [List.any_eq_false] at h
  have : c ∈ (ch.drop a).take (k + 1 - a) := by
    rw [List.mem_iff_getElem?]
    refine ⟨k - a, ?_⟩
    rw [List.getElem?_take_of_lt (by omega), List.getElem?_drop, show a + (k - a) = k by omega, hc]
  simpa using h c this

/-- what is asked of the chain -/
def chOk (ops : Array Oper) (m : Nat) (ch : Chain) (L : LL) (out : List (Nat × AV)) : Bool :=
  (ch.all fun c => decide (c.1 < m)) &&
  ((List.range ch.length).all fun q => match ch[q]? with
    | some c => ch.start c.1 == q + 1 && (q == 0 || match ch[q - 1]?, ops[c.1]? with | some b, some o => (edgesOf o).contains b.1 | _, _ => false)
    | none => true) &&
  decide ((L.map (·.1)).Nodup) && out.all (fun e => e.2.sure)

structure Inv (C : Ctx) (m : Nat) (ch : Chain) (base : Fr) (L : LL) (out : List (Nat × AV)) (listed : Array Bool) (a : Act) (w : World) (k : Nat) (F : Fr) : Prop where
  le : k ≤ ch.length
  stage : ∀ q c, ch[q]? = some c → listed.getD c.1 false = decide (q < k)
  rel : Rel C F (ch.at k L) a w
  done : ∀ j d av, j < m → listed.getD j false = true → out[j]? = some (d, av) → ch.hits (ch.start j) k av = false → get F d = some av
  bas : ∀ p ∈ base, ch.hits 0 k p.2 = false → get F p.1 = some p.2

theorem start_quiet {ch : Chain} {i : Nat} (h : ∀ c ∈ ch, c.1 ≠ i) : ch.start i = 0 := by
  unfold Chain.start
  have : ch.findIdx? (fun c => c.1 == i) = none := by
    rw [List.findIdx?_eq_none_iff]
    intro c hc
    have := h c hc
    simpa using this
  rw [this]
theorem upto_spec {ch : Chain} {ops : Array Oper} {i : Nat} (h : ∀ c ∈ ch, c.1 ≠ i) : ch.upto ops i = ch.length ∨ ∃ c o, ch[ch.upto ops i]? = some c ∧ ops[c.1]? = some o ∧ i ∈ edgesOf o := by
  unfold Chain.upto
  split
  · rename_i q hq
    right
    obtain ⟨hlt, hp, _⟩ := List.findIdx?_eq_some_iff_getElem.1 hq
    have hne := h ch[q] (List.getElem_mem hlt)
    simp only [Bool.or_eq_true, beq_iff_eq, hne, false_or] at hp
    split at hp
    · rename_i o ho
      exact ⟨ch[q], o, List.getElem?_eq_getElem hlt, ho, by simpa using hp⟩
    · cases hp
  · exact .inl rfl
theorem Inv.cover {m : Nat} {ch : Chain} {base : Fr} {out : List (Nat × AV)} {listed : Array Bool} {a : Act} {w : World} {k : Nat} {F : Fr} (hi : Inv C m ch base L out listed a w k F) {js : List Nat} {K : Nat} (hk : k ≤ K)
    (hj : ∀ j ∈ js, j < m ∧ listed.getD j false = true) : ∀ p ∈ frC ch out base js K, get F p.1 = some p.2 := by
  intro p hp
  unfold frC at hp
  rcases List.mem_append.1 hp with hp | hp
  · obtain ⟨j, hjs, hb⟩ := List.mem_filterMap.1 hp
    obtain ⟨e, he, hb⟩ := Option.bind_eq_some_iff.1 hb
    split at hb
    · cases hb
    · rename_i hh
      obtain rfl := Option.some.inj hb
      exact hi.done j e.1 e.2 (hj j hjs).1 (hj j hjs).2 he (hits_mono hk (by simpa using hh))
  · obtain ⟨h1, h2⟩ := List.mem_filter.1 hp
    exact hi.bas p h1 (hits_mono hk (by simpa using h2))
theorem chain_at_succ {ch : Chain} {k : Nat} {c : Nat × Nat × Option LObj} (h : ch[k]? = some c) : ch.at (k + 1) L = nextL c.2.1 c.2.2 (ch.at k L) := by
  unfold Chain.at
  rw [List.take_add_one, h, List.foldl_append]; rfl

theorem W_drawC {B : Code} {p : List Nat} {Q : Post} (m : Nat) (ch : Chain) {out : List (Nat × AV)} (hdr : isDraw (nav B p) = true)
    (hm : C.P.follows .mixedOrders = true) (hok : (drawOkT (opsOf (nav B p)) m [] && dstOk C.n (opsOf (nav B p)) && once fr && once (baseFr (opsOf (nav B p)) m fr) && chOk (opsOf (nav B p)) m ch L out) = true) (houtlen : out.length = m)
    (hdst : ∀ i o, i < m → (opsOf (nav B p))[i]? = some o → ∃ d av, o.dst = some d ∧ out[i]? = some (d, av))
    (hq : ∀ i o d av, i < m → (opsOf (nav B p))[i]? = some o → (∀ c ∈ ch, c.1 ≠ i) → o.dst = some d → out[i]? = some (d, av) →
      Drawn C (opsOf (nav B p)) i d av (frC ch out (baseFr (opsOf (nav B p)) m fr) (edgesOf o) (ch.upto (opsOf (nav B p)) i)) (LLq ch (ch.upto (opsOf (nav B p)) i) L))
    (hc : ∀ q c o d av, ch[q]? = some c → (opsOf (nav B p))[c.1]? = some o → o.dst = some d → out[c.1]? = some (d, av) →
      CStep C (opsOf (nav B p)) c.1 d c.2.1 c.2.2 av (frC ch out (baseFr (opsOf (nav B p)) m fr) (edgesOf o) q) (ch.at q L))
    (hn : WO C (opsOf (nav B p)) m (normQ Q) (frC ch out (baseFr (opsOf (nav B p)) m fr) (List.range m) ch.length) (ch.at ch.length L)) : W C (nav B p) Q fr L := by
  simp only [Bool.and_eq_true] at hok
  obtain ⟨⟨⟨⟨hok, hdok⟩, honce⟩, honceB⟩, hcho⟩ := hok
  generalize hops : opsOf (nav B p) = ops at *
  intro a w hr
  cases hcc : nav B p <;> simp only [hcc, isDraw, Bool.false_eq_true] at hdr
  rename_i id ops' dd
  rw [hcc] at hops
  simp only [opsOf] at hops
  subst hops hdr
  generalize hbase : baseFr ops' m fr = base at *
  obtain ⟨hmle, hnodup, hnosel, _, htailok⟩ := drawOkT_parts hok
  have hedge : ∀ i o, ops'[i]? = some o → ∀ j ∈ edgesOf o, j < i := fun i o ho => (edges_ltT hok ho).1
  unfold chOk at hcho
  simp only [Bool.and_eq_true] at hcho
  obtain ⟨⟨⟨hc1, hc2⟩, hc3⟩, hc4⟩ := hcho
  have hchm : ∀ c ∈ ch, c.1 < m := fun c hc => by simpa using List.all_eq_true.1 hc1 c hc
  have hL : (L.map (·.1)).Nodup := of_decide_eq_true hc3
  have hsure : ∀ (j d : Nat) (av : AV), out[j]? = some (d, av) → av.sure = true := fun j d av h => List.all_eq_true.1 hc4 (d, av) (List.mem_of_getElem? h)
  have hstart : ∀ (q : Nat) (c : Nat × Nat × Option LObj), ch[q]? = some c → ch.start c.1 = q + 1 ∧ (0 < q → ∃ b o, ch[q - 1]? = some b ∧ ops'[c.1]? = some o ∧ b.1 ∈ edgesOf o) := by
    intro q c hqc
    have hlt := (List.getElem?_eq_some_iff.1 hqc).1
    have := List.all_eq_true.1 hc2 q (by simpa using hlt)
    rw [hqc] at this
    simp only [Bool.and_eq_true, beq_iff_eq, Bool.or_eq_true] at this
    refine ⟨this.1, fun h0 => ?_⟩
    rcases this.2 with h1 | h1
    · omega
    · split at h1
      · rename_i b o hb ho
        exact ⟨b, o, hb, ho, by simpa using h1⟩
      · cases h1
  have hinj : ∀ (q q' : Nat) (c c' : Nat × Nat × Option LObj), ch[q]? = some c → ch[q']? = some c' → c.1 = c'.1 → q = q' := fun q q' c c' h1 h2 h3 => by
    have e1 := (hstart q c h1).1
    have e2 := (hstart q' c' h2).1
    rw [h3, e2] at e1
    omega
  have hdist : ∀ (i j d : Nat) (av av' : AV), i < m → j < m → out[i]? = some (d, av) → out[j]? = some (d, av') → i = j := by
    intro i j d av av' hi hj h1 h2
    have key : ∀ k, k < m → ∃ o, ops'[k]? = some o ∧ ∃ d av, o.dst = some d ∧ out[k]? = some (d, av) := fun k hk => ⟨ops'[k], Array.getElem?_eq_getElem (by omega), hdst k _ hk (Array.getElem?_eq_getElem (by omega))⟩
    have hds : (ops'.toList.take m).filterMap (·.dst) = out.map (·.1) := by
      apply List.ext_getElem?
      intro k
      have hall : ∀ o ∈ ops'.toList.take m, o.dst.isSome = true := by
        intro o ho
        obtain ⟨k, hk, rfl⟩ := List.getElem_of_mem ho
        have hkm : k < m := by simp at hk; omega
        obtain ⟨o', ho', d, av, hd, _⟩ := key k hkm
        have : ops'[k]? = some ops'[k] := Array.getElem?_eq_getElem (by omega)
        rw [this] at ho'
        obtain rfl := Option.some.inj ho'
        simp [hd]
      have hfm : ∀ (l : List Oper), (∀ o ∈ l, o.dst.isSome = true) → l.filterMap (·.dst) = l.map fun o => o.dst.getD 0 := by
        intro l
        induction l with
        | nil => intro _; rfl
        | cons o l ih =>
          intro hl
          have := hl o (by simp)
          cases hod : o.dst with
          | none => rw [hod] at this; simp at this
          | some d => simp [hod, ih (fun x hx => hl x (by simp [hx]))]
      rw [hfm _ hall]
      by_cases hk : k < m
      · obtain ⟨o', ho', d, av, hd, hout⟩ := key k hk
        simp [List.getElem?_take_of_lt hk, ho', hd, hout]
      · rw [List.getElem?_eq_none (by simp; omega), List.getElem?_eq_none (by simp; omega)]
    rw [hds] at hnodup
    have hi' : i < (out.map (·.1)).length := by simp; omega
    have hj' : j < (out.map (·.1)).length := by simp; omega
    have e1 : (out.map (·.1))[i] = d := by
      have : (out.map (·.1))[i]? = some d := by simp [h1]
      rw [List.getElem?_eq_getElem hi'] at this
      exact Option.some.inj this
    have e2 : (out.map (·.1))[j] = d := by
      have : (out.map (·.1))[j]? = some d := by simp [h2]
      rw [List.getElem?_eq_getElem hj'] at this
      exact Option.some.inj this
    exact (List.getElem_inj hnodup).1 (e1.trans e2.symm)
  have hdstin : ∀ (i d : Nat) (av : AV), i < m → out[i]? = some (d, av) → d ∈ (ops'.toList.take m).filterMap (·.dst) := by
    intro i d av hi h1
    obtain ⟨d', av', h2, h3⟩ := hdst i ops'[i] hi (Array.getElem?_eq_getElem (by omega))
    rw [h1] at h3
    simp only [Option.some.injEq, Prod.mk.injEq] at h3
    obtain ⟨rfl, rfl⟩ := h3
    refine List.mem_filterMap.2 ⟨ops'[i], ?_, h2⟩
    rw [List.mem_iff_getElem?]
    exact ⟨i, by rw [List.getElem?_take_of_lt hi]; simp⟩
  have hbase1 : ∀ p ∈ base, p.2.sure = true ∧ ∀ (i d : Nat) (av : AV), i < m → out[i]? = some (d, av) → p.1 ≠ d := by
    intro p hp
    have hg := once_get honceB hp
    rw [← hbase] at hg
    obtain ⟨g1, g2⟩ := base_spec hg
    exact ⟨g2, fun i d av hi ho e => g1 (e ▸ hdstin i d av hi ho)⟩
  have gd : ∀ (listed : Array Bool), listed.size = ops'.size → ∀ i b, i < ops'.size → listed.getD i b = listed.getD i false := by
    intro listed hls i b hi
    rw [Array.getD_eq_getD_getElem?, Array.getD_eq_getD_getElem?, Array.getElem?_eq_getElem (by omega)]; rfl
  have hset : ∀ (listed : Array Bool) i k, listed.size = ops'.size → i < ops'.size → (listed.setIfInBounds i true).getD k false = if i = k then true else listed.getD k false := by
    intro listed i k hls hi
    rw [Array.getD_eq_getD_getElem?, Array.getElem?_setIfInBounds]
    by_cases hik : i = k
    · subst hik; simp [hls, hi]
    · rw [if_neg hik, if_neg hik, ← Array.getD_eq_getD_getElem?]
  have toTail : ∀ (listed : Array Bool) (a : Act) (w : World), listed.size = ops'.size → (∀ i, m ≤ i → i < ops'.size → listed.getD i false = false) → (∃ k F, Inv C m ch base L out listed a w k F) → (∀ i, i < m → listed.getD i false = true) → ∀ fuel, ops'.size - m ≤ fuel → wpAny C.P .any ops' (lift C (normQ Q)) fuel listed a w := by
    intro listed a w hls htl ⟨k, F, hI⟩ hall fuel hf
    have hk : k = ch.length := by
      have := hI.le
      rcases Nat.lt_or_ge k ch.length with h1 | h1
      · have hck : ch[k]? = some ch[k] := List.getElem?_eq_getElem h1
        have := hI.stage k _ hck
        rw [hall _ (hchm _ (List.getElem_mem h1))] at this
        simp at this
      · omega
    subst hk
    refine draw_tailT hedge htailok hnosel (ops'.size - m) m listed a w (by omega) (Nat.le_refl _) hls (fun i hi => ?_) (hn a w (hI.rel.cover (hI.cover (Nat.le_refl _) (fun j hj => ?_)))) fuel hf
    · by_cases him : i < m
      · rw [hall i him]; simp [him]
      · rw [htl i (by omega) hi]; simp [him]
    · have := List.mem_range.1 hj
      exact ⟨this, hall j this⟩
  have quiet : ∀ (fuel : Nat) (listed : Array Bool) (a : Act) (w : World), listed.size = ops'.size → (∀ i, m ≤ i → i < ops'.size → listed.getD i false = false) →
      (∀ i o, i < m → ops'[i]? = some o → listed.getD i false = true → ∀ j ∈ edgesOf o, listed.getD j false = true) →
      (∃ k F, Inv C m ch base L out listed a w k F) → ops'.size ≤ fuel + ((List.range ops'.size).filter fun i => listed.getD i false).length → wpAny C.P .any ops' (lift C (normQ Q)) fuel listed a w := by
    intro fuel
    induction fuel with
    | zero =>
      intro listed a w hls htl hdc hI hcount
      have hall : ∀ i, i < ops'.size → listed.getD i false = true := by
        intro i hi
        have hlen : ((List.range ops'.size).filter fun i => listed.getD i false).length = (List.range ops'.size).length := by
          have := List.length_filter_le (fun i => listed.getD i false) (List.range ops'.size)
          simp at this hcount ⊢; omega
        have := List.length_filter_eq_length_iff.1 hlen i (by simpa using hi)
        simpa using this
      have hms : m = ops'.size := by
        rcases Nat.lt_or_ge m ops'.size with hlt | hge
        · have := htl m (Nat.le_refl _) hlt; rw [hall m hlt] at this; cases this
        · omega
      exact toTail listed a w hls htl hI (fun i hi => hall i (by omega)) 0 (by omega)
    | succ fuel ih =>
      intro listed a w hls htl hdc hI hcount
      by_cases hdone : ∀ i, i < m → listed.getD i false = true
      · refine toTail listed a w hls htl hI hdone (fuel + 1) ?_
        have h1 : (List.range ops'.size).filter (fun i => listed.getD i false) = (List.range ops'.size).filter (fun i => decide (i < m)) := by
          apply List.filter_congr
          intro i hi
          by_cases him : i < m
          · rw [hdone i him]; simp [him]
          · rw [htl i (by omega) (by simpa using hi)]; simp [him]
        have h2 : (List.range ops'.size).filter (fun i => decide (i < m)) = List.range m := by
          have : ops'.size = m + (ops'.size - m) := by omega
          rw [this, List.range_add, List.filter_append]
          have e1 : (List.range m).filter (fun i => decide (i < m)) = List.range m := List.filter_eq_self.2 (by simp)
          have e2 : ((List.range (ops'.size - m)).map (m + ·)).filter (fun i => decide (i < m)) = [] := List.filter_eq_nil_iff.2 (by simp)
          rw [e1, e2]; simp
        rw [h1, h2] at hcount
        simp at hcount; omega
      · obtain ⟨i0, hi0, hi0l⟩ : ∃ i, i < m ∧ listed.getD i false = false := by
          simp only [Classical.not_forall, Bool.not_eq_true] at hdone
          obtain ⟨i, hi, hil⟩ := hdone; exact ⟨i, hi, hil⟩
        have hnonempty : Region.ready .any ops' listed ≠ [] := by
          have hex : ∃ i, i < ops'.size ∧ listed.getD i false = false ∧ ∀ j, j < i → listed.getD j false = true := by
            obtain ⟨k, ⟨hk1, hk2⟩, hk3⟩ := least_of (p := fun i => i < ops'.size ∧ listed.getD i false = false) i0 ⟨by omega, hi0l⟩
            refine ⟨k, hk1, hk2, fun j hj => ?_⟩
            have := hk3 j hj
            cases hq : listed.getD j false with
            | true => rfl
            | false => exact (this ⟨by omega, hq⟩).elim
          obtain ⟨k, hk1, hk2, hk3⟩ := hex
          intro hempty
          have : k ∈ Region.ready .any ops' listed := mem_ready'.2 ⟨hk1, by rw [gd listed hls k _ hk1]; exact hk2, ops'[k], Array.getElem?_eq_getElem hk1, fun j hj => hk3 j (hedge _ _ (Array.getElem?_eq_getElem hk1) j hj)⟩
          rw [hempty] at this; cases this
        refine ⟨fun e => (hnonempty e).elim, fun i hi => ?_⟩
        obtain ⟨h1, h2, o, ho1, ho2'⟩ := mem_ready'.1 hi
        rw [gd listed hls i _ h1] at h2
        rcases Nat.lt_or_ge i m with him | him
        · obtain ⟨d, av, hd1, hout⟩ := hdst i o him ho1
          have hdn : d < C.n := by
            have := List.all_eq_true.1 hdok o (by simpa using Array.mem_of_getElem? ho1)
            rw [hd1] at this; simpa using this
          obtain ⟨k, F, hI⟩ := hI
          have hjs : ∀ j ∈ edgesOf o, j < m ∧ listed.getD j false = true := fun j hj => ⟨by have := hedge _ _ ho1 j hj; omega, ho2' j hj⟩
          -- what goes on behind it
          have next : ∀ (a' : Act) (w' : World), (∃ k' F', Inv C m ch base L out (listed.setIfInBounds i true) a' w' k' F') → wpAny C.P .any ops' (lift C (normQ Q)) fuel (listed.setIfInBounds i true) a' w' := by
            intro a' w' hI'
            refine ih (listed.setIfInBounds i true) a' w' (by simp [hls]) ?_ ?_ hI' ?_
            · intro k hk hk2
              rw [hset listed i k hls h1, if_neg (by omega)]
              exact htl k hk hk2
            · intro k ok hk hok' hkl j hj
              rw [hset listed i j hls h1]
              split
              · rfl
              · rw [hset listed i k hls h1] at hkl
                by_cases hik : i = k
                · subst hik
                  rw [ho1] at hok'
                  obtain rfl := Option.some.inj hok'
                  exact ho2' j hj
                · rw [if_neg hik] at hkl
                  exact hdc k ok hk hok' hkl j hj
            · have : ((List.range ops'.size).filter fun k => (listed.setIfInBounds i true).getD k false).length = ((List.range ops'.size).filter fun k => listed.getD k false).length + 1 := by
                rw [List.filter_congr (q := fun k => decide (k = i) || listed.getD k false) (fun k hk => by
                  rw [hset listed i k hls h1]
                  by_cases hik : i = k
                  · subst hik; simp
                  · rw [if_neg hik]; simp [Ne.symm hik])]
                exact count_one ops'.size i (fun k => listed.getD k false) h1 h2
              rw [this]; omega
          by_cases hch : ∀ c ∈ ch, c.1 ≠ i
          · -- a quiet one
            have hkK : k ≤ ch.upto ops' i := by
              rcases upto_spec (ops := ops') hch with e | ⟨c, oc, e1, e2, e3⟩
              · rw [e]; exact hI.le
              · rcases Nat.lt_or_ge (ch.upto ops' i) k with hlt | hge
                · have := hI.stage _ c e1
                  rw [decide_eq_true hlt] at this
                  have := hdc c.1 oc (hchm c (List.mem_of_getElem? e1)) e2 this i e3
                  rw [h2] at this; cases this
                · exact hge
            obtain ⟨h, ρ, hrel⟩ := hI.rel
            have hcov := hI.cover hkK hjs
            have hrelI : RelH C h ρ (frC ch out base (edgesOf o) (ch.upto ops' i)) (LLq ch (ch.upto ops' i) L) a w :=
              RelH.less { hrel with fr := fun t v ht => hrel.fr t v (hcov (t, v) (get_mem _ _ _ ht)) } (LLq_cover hkK hL)
            refine hq i o d av him ho1 hch hd1 hout h ρ a w hrelI _ _ (fun h' v w' hext hlift hv => next _ _ ⟨k, putF F d av, hI.le, ?_, ?_, ?_, ?_⟩)
            · intro q c hqc
              rw [hset listed i c.1 hls h1, if_neg (Ne.symm (hch c (List.mem_of_getElem? hqc)))]
              exact hI.stage q c hqc
            · exact ⟨h', ρ, (hlift F _ (LLq_cover hkK hL) hrel).putSlot d av v hdn hv⟩
            · intro j dj avj hj hjl hjo hjh
              by_cases hij : i = j
              · subst hij
                rw [hout] at hjo
                simp only [Option.some.injEq, Prod.mk.injEq] at hjo
                obtain ⟨rfl, rfl⟩ := hjo
                exact get_putF_self
              · rw [hset listed i j hls h1, if_neg hij] at hjl
                exact get_putF (hI.done j dj avj hj hjl hjo hjh) (hsure j dj avj hjo) (fun e => hij (hdist i j d av avj him hj hout (e ▸ hjo)))
            · intro p hp hph
              obtain ⟨b1, b2⟩ := hbase1 p hp
              exact get_putF (hI.bas p hp hph) b1 (b2 i d av him hout)
          · -- a step of the chain
            simp only [Classical.not_forall, Classical.not_not] at hch
            obtain ⟨c, hcm, hci⟩ := hch
            obtain ⟨q, hqlt, hqe⟩ := List.getElem_of_mem hcm
            have hqc : ch[q]? = some c := by rw [List.getElem?_eq_getElem hqlt, hqe]
            subst hci
            have hqk : q = k := by
              have hst := hI.stage q c hqc
              rw [h2] at hst
              have hge := of_decide_eq_false hst.symm
              rcases Nat.eq_or_lt_of_le (Nat.le_of_not_lt hge) with e | hlt
              · exact e.symm
              · obtain ⟨b, ob, hb, hob, hbe⟩ := (hstart q c hqc).2 (by omega)
                rw [ho1] at hob
                obtain rfl := Option.some.inj hob
                have := ho2' b.1 hbe
                rw [hI.stage (q - 1) b hb] at this
                have := of_decide_eq_true this
                omega
            subst hqk
            have hcov := hI.cover (Nat.le_refl _) hjs
            refine hc q c o d av hqc ho1 hd1 hout F a w hcov hI.rel _ _ (fun a' w' hrel' => next _ _ ⟨q + 1, putF (killF c.2.1 F) d av, by omega, ?_, ?_, ?_, ?_⟩)
            · intro q' c' hqc'
              rw [hset listed c.1 c'.1 hls h1]
              by_cases e : c.1 = c'.1
              · have := hinj q q' c c' hqc hqc' e
                subst this
                rw [if_pos e]; simp
              · rw [if_neg e, hI.stage q' c' hqc']
                have hne : q' ≠ q := by rintro rfl; rw [hqc] at hqc'; exact e (by rw [Option.some.inj hqc'])
                congr 1
                exact propext ⟨fun h => by omega, fun h => by omega⟩
            · rw [chain_at_succ hqc]; exact hrel'
            · intro j dj avj hj hjl hjo hjh
              by_cases hij : c.1 = j
              · subst hij
                rw [hout] at hjo
                simp only [Option.some.injEq, Prod.mk.injEq] at hjo
                obtain ⟨rfl, rfl⟩ := hjo
                exact get_putF_self
              · rw [hset listed c.1 j hls h1, if_neg hij] at hjl
                have hsj : ch.start j ≤ q := by
                  by_cases hq' : ∀ c' ∈ ch, c'.1 ≠ j
                  · rw [start_quiet hq']; omega
                  · simp only [Classical.not_forall, Classical.not_not] at hq'
                    obtain ⟨c', hc', e⟩ := hq'
                    obtain ⟨q', hq'lt, hq'e⟩ := List.getElem_of_mem hc'
                    have hqc' : ch[q']? = some c' := by rw [List.getElem?_eq_getElem hq'lt, hq'e]
                    have := hI.stage q' c' hqc'
                    rw [e, hjl] at this
                    have := of_decide_eq_true this.symm
                    rw [← e, (hstart q' c' hqc').1]; omega
                obtain ⟨s1, s2⟩ := hits_step hqc hsj hjh
                exact get_putF (get_killF (hI.done j dj avj hj hjl hjo s1) s2) (hsure j dj avj hjo) (fun e => hij (hdist c.1 j d av avj him hj hout (e ▸ hjo)))
            · intro p hp hph
              obtain ⟨b1, b2⟩ := hbase1 p hp
              obtain ⟨s1, s2⟩ := hits_step hqc (Nat.zero_le _) hph
              exact get_putF (get_killF (hI.bas p hp s1) s2) b1 (b2 c.1 d av him hout)
        · exfalso
          have h3m : m = i := by
            rcases Nat.lt_or_ge m i with h4 | h4
            · obtain ⟨j, hj, hjm⟩ := (edges_ltT hok ho1).2.2.2.2 h4
              have hjs := hedge _ _ ho1 j hj
              have := ho2' j hj
              rw [htl j hjm (by omega)] at this; cases this
            · omega
          have all : ∀ d j, m - j ≤ d → j < m → listed.getD j false = true := by
            intro d
            induction d with
            | zero => intro j h4 h5; omega
            | succ d ihd =>
              intro j h4 h5
              rcases (edges_ltT hok ho1).2.2.2.1 h3m j (by omega) with h7 | h7 | ⟨k, ok, k1, k2, k3, k4⟩
              · exact ho2' j h7
              · cases h7
              · have := hedge _ _ k3 j k4
                exact hdc k ok k1 k3 (ihd k (by omega) k1) j k4
          have := all m i0 (by omega) hi0
          rw [hi0l] at this; cases this
  refine wp_mono (Q := lift C (normQ Q)) (wp_region_any hm (quiet ops'.size _ a _ (by simp) (fun i _ hi => by simp [Array.getD_eq_getD_getElem?, hi]) (fun i o hi ho hl => ?_) ?_ (by omega))) (fun e a w hh => by obtain ⟨f, l, q1, _, q2⟩ := hh; exact ⟨f, l, q1, q2⟩)
  · rw [Array.getD_eq_getD_getElem?] at hl
    simp [show i < ops'.size by omega] at hl
  · obtain ⟨h, ρ, hr'⟩ := hr.drawn
    refine ⟨0, base, Nat.zero_le _, fun q c hqc => ?_, ⟨h, ρ, ?_⟩, fun j d av hj hl => ?_, fun p hp _ => once_get honceB hp⟩
    · have := hchm c (List.mem_of_getElem? hqc)
      rw [Array.getD_eq_getD_getElem?]
      simp [show c.1 < ops'.size by omega]
    · rw [← hbase]
      exact { hr' with fr := base_get (fun p hp => hr'.fr p.1 p.2 (once_get honce hp)) }
    · rw [Array.getD_eq_getD_getElem?] at hl
      simp [show j < ops'.size by omega] at hl

/-! ### steps of the chain -/
theorem SV.frz_kill (nm : Nat) (u : Ty) (xs : List u.den) (x : SV) : (x.kill nm).frz nm u xs = x.kill nm := by
  unfold SV.kill
  by_cases h : x.has nm = true
  · rw [if_pos h]; rfl
  · rw [if_neg h]
    cases x <;> simp_all [SV.frz, SV.has]
theorem frz_kill_list (nm : Nat) (u : Ty) (xs : List u.den) (cs : List SV) : (cs.map (SV.kill nm)).map (SV.frz nm u xs) = cs.map (SV.kill nm) := by
  rw [List.map_map]
  exact List.map_congr_left (fun x _ => SV.frz_kill nm u xs x)
theorem AV.frz_kill (nm d : Nat) (u : Ty) (xs : List u.den) (v : AV) : ((v.kill nm).unmb d).frz nm u xs = (v.kill nm).unmb d := by
  cases v with
  | one x => simp only [AV.kill, AV.unmb, AV.frz, SV.frz_kill]
  | agg cs => simp only [AV.kill, AV.unmb, AV.frz, frz_kill_list]
  | tup cs => simp only [AV.kill, AV.unmb, AV.frz, frz_kill_list]
  | mb g b x =>
    simp only [AV.kill, AV.unmb]
    split
    · rfl
    · simp only [AV.frz, SV.frz_kill]
theorem LObj.frz_kill (nm : Nat) (u : Ty) (xs : List u.den) (o : LObj) : (o.kill nm).frz nm u xs = o.kill nm := by
  cases o with
  | cells cs => simp only [LObj.kill, LObj.frz, frz_kill_list]
  | _ => rfl
theorem CStep.frz {ops : Array Oper} {i d nm : Nat} {u : Ty} {xs : List u.den} {frI : Fr} {L : LL} (h : CStep C ops i d nm (some (.seq u xs)) (.one (.slc nm)) frI L) (hlt : decide (nm < 1000) = true) : CStep C ops i d nm none (.one (.dat (.slice u) xs)) frI L := by
  intro F a w hF hr Q K hK
  refine h F a w hF hr Q K (fun a' w' hr' => hK a' w' ?_)
  have hlt := of_decide_eq_true hlt
  have hg : get (newL nm (.seq u xs) L) nm = some (.seq u xs) := by rw [get_newL, if_pos rfl]
  have hfz : frzF (putF (killF nm F) d (.one (.slc nm))) (newL nm (.seq u xs) L) nm = some (mapv (AV.frz nm u xs) (putF (killF nm F) d (.one (.slc nm))), mapv (LObj.frz nm u xs) (del (newL nm (.seq u xs) L) nm)) := by
    unfold frzF
    rw [hg]
    simp only [hlt, if_true]
  obtain ⟨hh, ρ, hr2⟩ := hr'.frzF hfz
  refine ⟨hh, ρ, RelH.less { hr2 with fr := fun t v ht => hr2.fr t v ?_ } (fun s o hs => ?_)⟩
  · rw [get_mapv]
    unfold putF at ht ⊢
    simp only [get] at ht ⊢
    by_cases e : d = t
    · rw [if_pos e] at ht ⊢
      rw [Option.map_some, ← ht]
      simp [AV.frz, SV.frz]
    · rw [if_neg e] at ht ⊢
      unfold killF at ht ⊢
      rw [get_mapv, get_del, if_neg e, get_mapv] at ht ⊢
      cases hft : get F t with
      | none => rw [hft] at ht; simp at ht
      | some v0 =>
        rw [hft] at ht
        simp only [Option.map_some, Option.some.injEq] at ht ⊢
        rw [← ht, AV.frz_kill]
  · unfold nextL at hs
    simp only at hs
    rw [get_mapv, get_del] at hs ⊢
    by_cases e : nm = s
    · rw [if_pos e] at hs; simp at hs
    · rw [if_neg e] at hs ⊢
      rw [get_newL, if_neg e]
      cases hls : get L s with
      | none => rw [hls] at hs; simp at hs
      | some o0 =>
        rw [hls] at hs
        simp only [Option.map_some, Option.some.injEq] at hs ⊢
        rw [← hs, LObj.frz_kill]

/-- an operation that makes or uses up one object: the name, the object behind it, what its slot holds, and what is owed -/
def cDo (P : Program) (fr : Fr) (L : LL) (d : Nat) (o : Oper) : Option (Nat × LObj × AV × Prop) :=
  match o.guard, o.op with
  | none, .alloc t => if nameOk d then (eAlloc P false t).map fun ob => (d, ob, .one (.ptr d 0), True) else none
  | none, .box _ x => if nameOk d then (eBox d (evS fr none x)).map fun ob => (d, ob, .one (.ptr d 0), True) else none
  | none, .buildSlice t n ps => if nameOk d then (eBuildSlice P (evS fr none) t n ps.toList).map fun ob => (d, ob, .one (.slc d), True) else none
  | none, .call c =>
    match c.callee, c.args.toList, c.argTypes.toList with
    | .builtin .append, [s, x], [t, t2] =>
      match eAppend P L d t t2 (evS fr none s) (evS fr none x) with
      | some (nm, ob, p) => if nameOk nm then some (nm, ob, .one (.slc nm), p) else none
      | none => none
    | _, _, _ => none
  | _, _ => none
theorem evS_cover {F frI : Fr} (hF : ∀ p ∈ frI, get F p.1 = some p.2) {x : Operand} {y : AV} (h : evS frI none x = some y) : evS F none x = some y := by
  cases x with
  | tmp t =>
    simp only [evS] at h ⊢
    cases hg : get frI t with
    | none => rw [hg] at h; cases h
    | some v =>
      rw [hg] at h
      rw [hF (t, v) (get_mem _ _ _ hg)]
      exact h
  | const v => exact h
  | func f => exact h
  | global g => exact h
theorem mapM_mono {α β : Type} {f g : α → Option β} (h : ∀ x y, f x = some y → g x = some y) : ∀ {l : List α} {ys : List β}, l.mapM f = some ys → l.mapM g = some ys
  | [], ys, e => by simpa using e
  | x :: l, ys, e => by
    rw [List.mapM_cons] at e ⊢
    obtain ⟨y, h1, e⟩ := Option.bind_eq_some_iff.1 e
    obtain ⟨zs, h2, e⟩ := Option.bind_eq_some_iff.1 e
    rw [h x y h1]
    show (l.mapM g).bind _ = _
    rw [mapM_mono h h2]
    exact e
theorem eBuildSlice_mono {P : Program} {ev ev' : Operand → Option AV} (h : ∀ x y, ev x = some y → ev' x = some y) {t : TypeId} {n : Nat} {ps : List (Nat × Operand)} {ob : LObj} (e : eBuildSlice P ev t n ps = some ob) : eBuildSlice P ev' t n ps = some ob := by
  unfold eBuildSlice at e ⊢
  split at e
  · split at e
    · split at e
      · rename_i hc
        rw [if_pos hc]
        obtain ⟨xs, h1, h2⟩ := Option.map_eq_some_iff.1 e
        refine Option.map_eq_some_iff.2 ⟨xs, mapM_mono (fun p y hp => ?_) h1, h2⟩
        obtain ⟨v, g1, g2⟩ := Option.bind_eq_some_iff.1 hp
        rw [h _ _ g1]; exact g2
      · cases e
    · cases e
  · cases e
theorem cDo_step {ops : Array Oper} {i d nm : Nat} {o : Oper} {ob : LObj} {av : AV} {p : Prop} {frI : Fr} (ho : ops[i]? = some o) (hd : o.dst = some d) (hdn : d < C.n) (h : cDo C.P frI L d o = some (nm, ob, av, p)) (hp : p) : CStep C ops i d nm (some ob) av frI L := by
  intro F a w hF hr Q K hK
  have main : ∀ (q : List Prop), AllP q → o.guard = none → exec C.P F L none none o = some (putF (killF nm F) d av, newL nm ob L, q) → wpOp C.P ops Q i K a w := by
    intro q hq hg hx
    obtain ⟨hh, ρ, hrel⟩ := hr
    have hw : Region.wanted o (yielded ops a.tmps) = true := by simp [Region.wanted, hg]
    have := does_of_exec hw (exec_sound hrel (fun g b e => by cases e) (fun d' e => by rw [hd] at e; obtain rfl := Option.some.inj e; exact hdn) hx hq) Q K hK
    rw [if_pos hw] at this
    unfold wpOp
    rw [ho]
    simp only
    rw [if_pos hw]
    exact .inl this
  unfold cDo at h
  split at h
  · rename_i t hg hop
    split at h
    · rename_i hn
      obtain ⟨ob', hob, he⟩ := Option.map_eq_some_iff.1 h
      simp only [Prod.mk.injEq] at he
      obtain ⟨rfl, rfl, rfl, rfl⟩ := he
      refine main [] trivial hg ?_
      unfold exec
      rw [hop, hd]
      simp only [hn, if_true, hob, Option.map_some]
    · cases h
  · rename_i t x hg hop
    split at h
    · rename_i hn
      obtain ⟨ob', hob, he⟩ := Option.map_eq_some_iff.1 h
      simp only [Prod.mk.injEq] at he
      obtain ⟨rfl, rfl, rfl, rfl⟩ := he
      have hev : evS F none x = evS frI none x := by
        cases hx : evS frI none x with
        | none => rw [hx] at hob; simp [eBox] at hob
        | some y => rw [evS_cover hF hx]
      refine main [] trivial hg ?_
      unfold exec
      rw [hop, hd]
      simp only [hn, if_true, hev, hob, Option.map_some]
    · cases h
  · rename_i t n ps hg hop
    split at h
    · rename_i hn
      obtain ⟨ob', hob, he⟩ := Option.map_eq_some_iff.1 h
      simp only [Prod.mk.injEq] at he
      obtain ⟨rfl, rfl, rfl, rfl⟩ := he
      refine main [] trivial hg ?_
      unfold exec
      rw [hop, hd]
      simp only [hn, if_true, eBuildSlice_mono (fun x y => evS_cover hF) hob, Option.map_some]
    · cases h
  · rename_i c hg hop
    split at h
    · rename_i s x t t2 hcal hargs hts
      split at h
      · rename_i nm' ob' p' hap
        split at h
        · rename_i hn
          simp only [Option.some.injEq, Prod.mk.injEq] at h
          obtain ⟨rfl, rfl, rfl, rfl⟩ := h
          have hevs : evS F none s = evS frI none s := by
            cases hx : evS frI none s with
            | none => rw [hx] at hap; unfold eAppend at hap; revert hap; (repeat' split) <;> intro e <;> first | contradiction | cases e
            | some y => rw [evS_cover hF hx]
          have hevx : evS F none x = evS frI none x := by
            cases hx : evS frI none x with
            | none => rw [hx] at hap; simp only [eAppend, srcOf] at hap; revert hap; (repeat' split) <;> intro e <;> first | contradiction | cases e
            | some y => rw [evS_cover hF hx]
          refine main [p'] hp hg ?_
          unfold exec
          rw [hop, hd]
          simp only [hcal, hargs, hts, hevs, hevx, hap, hn, if_true]
        · cases h
      · cases h
    · cases h
  · cases h

theorem call1_step {ops : Array Oper} {i : Nat} {us : List (Option Ty)} {f : Nat} {as : List AV} {d s t : Nat} {p : Prop} {R : AV} {ob : LObj} {frI : Fr} (hc : CallAt C ops i frI us f as d p) (hp : p) (hF : FnC C.P f as [] R [(s, ob)])
    (hs : (R.within s && ob.plain && nameOk t && decide (t < 1000)) = true) : CStep C ops i d t (some ob) (R.ren fun _ => t) frI L := by
  intro F a w hFc ⟨h, ρ, hr⟩ Q K hK
  have hrI : RelH C h ρ frI L a w := { hr with fr := fun t v ht => hr.fr t v (hFc (t, v) (get_mem _ _ _ ht)) }
  simp only [Bool.and_eq_true] at hs
  obtain ⟨⟨⟨hR, hpl⟩, hnm⟩, _⟩ := hs
  have hok := hc.ok
  split at hok
  · rename_i o ho
    split at hok
    · rename_i gd q hg
      obtain ⟨⟨f', as0⟩, hcall, hd⟩ := Option.bind_eq_some_iff.1 hok
      obtain ⟨as', hco, hd⟩ := Option.bind_eq_some_iff.1 hd
      obtain ⟨d', hdst, he⟩ := Option.map_eq_some_iff.1 hd
      simp only [Prod.mk.injEq] at he
      obtain ⟨rfl, rfl, rfl, rfl⟩ := he
      obtain ⟨hw, hgd⟩ := guardIs_spec hrI hg hp
      obtain ⟨vs, hrun, hall0⟩ := callOf_spec hrI hgd hcall hc.fn
      have hall := coer_spec _ _ _ _ hco hall0
      unfold wpOp
      rw [ho]
      simp only
      rw [if_pos hw]
      left
      unfold Oper.wp
      rw [hrun, Oper.upon_enter]
      refine (hF h ρ w vs hr.heap (fun s o hs => by simp [get] at hs) (fun s s' o o' b _ hs => by simp [get] at hs) hall).mono ?_
      rintro e w' ⟨v, h', ρ', rfl, hrel, hout⟩
      refine hK _ _ ?_
      rw [hdst]
      have hext := hr.extend hout
      have hnew := hout.objs s ob (by simp [get])
      have hnew' : ORel (fun b => w.heap.size ≤ b) h' ρ' w' (ρ' s) ob := by
        refine hnew.own_mono fun b hb => ?_
        rcases (hnew.block hb).1 with h1 | ⟨t', p', ht', _⟩
        · exact h1
        · simp [get] at ht'
      have hrel2 := hext.fresh_name t hnm (ρ' s) ob w' rfl rfl rfl (Nat.le_refl _) none (fun b hb => by cases hb) (fun _ _ _ => rfl)
        ((hnew'.own_mono fun b hb => .inl (Nat.le_trans hr.grow (hnew'.block hb).1)).plain hpl) ?_ ?_
      · exact ⟨h', _, hrel2.putSlot d' _ v (of_decide_eq_true hc.lt) (hrel.within hR (by simp [upd]))⟩
      · intro b hb s' o' _ hs' hb'
        have h1 := (hnew'.block hb).1
        have h2 := ((hr.objs s' o' hs').block hb').2.2
        omega
      · intro _ b hb
        exact Nat.le_trans hr.grow (hnew'.block hb).1
    · simp at hok
  · simp at hok

/-! ### all at once -/
theorem Drawn.more {ops : Array Oper} {i d : Nat} {av : AV} {frI : Fr} {L' : LL} (h : Drawn C ops i d av frI L) (hs : ∀ s o, get L s = some o → get L' s = some o) : Drawn C ops i d av frI L' :=
  fun hh ρ a w hr Q K hK => h hh ρ a w (hr.less hs) Q K (fun h' v w' e1 e2 e3 => hK h' v w' e1 (fun frx Lx hx => e2 frx Lx (fun s o hs' => hx s o (hs s o hs'))) e3)
theorem LLq_less {ch : Chain} {k K : Nat} (hk : k ≤ K) {L : LL} (h : (L.map (·.1)).Nodup) : ∀ s o, get (LLq ch K L) s = some o → get (LLq ch k L) s = some o := by
  intro s o hs
  have hm := get_mem _ _ _ hs
  unfold LLq at hm ⊢
  obtain ⟨h1, h2⟩ := List.mem_filter.1 hm
  have hnd : ((L.filter fun e => (ch.take k).all fun c => !(e.1 == c.2.1) && !e.2.hit c.2.1).map (·.1)).Nodup := (List.Sublist.map _ List.filter_sublist).nodup h
  refine onceL_get hnd (p := (s, o)) (List.mem_filter.2 ⟨h1, ?_⟩)
  rw [List.all_eq_true] at h2 ⊢
  intro c hc
  have : ch.take k = (ch.take K).take k := by rw [List.take_take]; congr 1; omega
  rw [this] at hc
  exact h2 c (List.mem_of_mem_take hc)
theorem fm_congr {α β : Type} {f g : α → Option β} : ∀ {l : List α}, (∀ x ∈ l, f x = g x) → l.filterMap f = l.filterMap g
  | [], _ => rfl
  | x :: l, h => by rw [List.filterMap_cons, List.filterMap_cons, h x (by simp), fm_congr (fun y hy => h y (by simp [hy]))]
theorem frC_take {ch : Chain} {out : List (Nat × AV)} {base : Fr} {js : List Nat} {k i : Nat} (h : ∀ j ∈ js, j < i) : frC ch (out.take i) base js k = frC ch out base js k := by
  unfold frC
  congr 1
  refine fm_congr (fun j hj => ?_)
  rw [List.getElem?_take_of_lt (h j hj)]
theorem upto_le (ch : Chain) (ops : Array Oper) (i : Nat) : ch.upto ops i ≤ ch.length := by
  unfold Chain.upto
  split
  · rename_i q hq
    obtain ⟨hlt, _⟩ := List.findIdx?_eq_some_iff_getElem.1 hq
    omega
  · omega
def entsC (P : Program) (ops : Array Oper) (base : Fr) (L : LL) (ch : Chain) (chOut : List (Nat × AV)) (orcs : List (Nat × Orc)) (cs : List (Nat × List (Option Ty) × AV)) : Nat → List Oper → List (Nat × AV) → Option (List (Nat × AV) × List Prop × List (Nat × List AV × AV))
  | _, [], acc => some (acc, [], [])
  | i, o :: r, acc =>
    match o.dst with
    | some d =>
      match get chOut i with
      | some av => entsC P ops base L ch chOut orcs cs (i + 1) r (acc ++ [(d, av)])
      | none =>
        match get cs i with
        | some (us, R) =>
          match cDraw ops (frC ch acc base (edgesOf o) (ch.upto ops i)) us o with
          | some (f, as, q) =>
            match entsC P ops base L ch chOut orcs cs (i + 1) r (acc ++ [(d, R)]) with
            | some (l, obs, calls) => some (l, q :: obs, (f, as, R) :: calls)
            | none => none
          | none => none
        | none =>
          match xDraw P ops (frC ch acc base (edgesOf o) (ch.upto ops i)) (LLq ch (ch.upto ops i) L) (get orcs (2 * i)) (get orcs (2 * i + 1)) d o with
          | some (av, p) =>
            match entsC P ops base L ch chOut orcs cs (i + 1) r (acc ++ [(d, av)]) with
            | some (l, obs, calls) => some (l, p ++ obs, calls)
            | none => none
          | none => none
    | none => none

theorem entsC_spec {ops : Array Oper} {base : Fr} {ch : Chain} {chOut : List (Nat × AV)} {orcs : List (Nat × Orc)} {cs : List (Nat × List (Option Ty) × AV)} (hL : (L.map (·.1)).Nodup) : ∀ (l : List Oper) (i : Nat) (acc out : List (Nat × AV)) (obs : List Prop) (calls : List (Nat × List AV × AV)), acc.length = i →
    entsC C.P ops base L ch chOut orcs cs i l acc = some (out, obs, calls) → AllP obs → AllD C.P (LLq ch ch.length L) calls → (∀ k o, l[k]? = some o → ops[i + k]? = some o) → (∀ (k : Nat) (o : Oper) (d : Nat), ops[k]? = some o → o.dst = some d → d < C.n) →
    out.length = i + l.length ∧ (∀ k, k < i → out[k]? = acc[k]?) ∧ ∀ k o, l[k]? = some o → ∃ d av, o.dst = some d ∧ out[i + k]? = some (d, av) ∧ (get chOut (i + k) = none → Drawn C ops (i + k) d av (frC ch (out.take (i + k)) base (edgesOf o) (ch.upto ops (i + k))) (LLq ch (ch.upto ops (i + k)) L))
  | [], i, acc, out, obs, calls, hl, h, _, _, _, _ => by
    simp only [entsC, Option.some.injEq, Prod.mk.injEq] at h
    obtain ⟨rfl, _⟩ := h
    exact ⟨by simp [hl], fun _ _ => rfl, fun k o hk => by simp at hk⟩
  | o :: l, i, acc, out, obs, calls, hl, h, ho, hcl, hops, hdn => by
    have fin : ∀ (d : Nat) (av : AV) (l' : List (Nat × AV)) (q : List Prop) (cl : List (Nat × List AV × AV)), o.dst = some d → entsC C.P ops base L ch chOut orcs cs (i + 1) l (acc ++ [(d, av)]) = some (l', q, cl) → AllP q → AllD C.P (LLq ch ch.length L) cl →
        (get chOut i = none → Drawn C ops i d av (frC ch acc base (edgesOf o) (ch.upto ops i)) (LLq ch (ch.upto ops i) L)) → 
        l'.length = i + (o :: l).length ∧ (∀ k, k < i → l'[k]? = acc[k]?) ∧ ∀ k o', (o :: l)[k]? = some o' → ∃ d av, o'.dst = some d ∧ l'[i + k]? = some (d, av) ∧ (get chOut (i + k) = none → Drawn C ops (i + k) d av (frC ch (l'.take (i + k)) base (edgesOf o') (ch.upto ops (i + k))) (LLq ch (ch.upto ops (i + k)) L)) := by
      intro d av l' q cl hd he hq hcl' hdr
      obtain ⟨h1, h2, h3⟩ := entsC_spec hL l (i + 1) (acc ++ [(d, av)]) l' q cl (by simp [hl]) he hq hcl' (fun k o' hk => by
        have := hops (k + 1) o' (by simpa using hk)
        rwa [show i + (k + 1) = i + 1 + k by omega] at this) hdn
      have hacc : l'.take i = acc := by
        apply List.ext_getElem?
        intro k
        rw [List.getElem?_take]
        split
        · rename_i hk
          rw [h2 k (by omega), List.getElem?_append_left (by omega)]
        · rw [List.getElem?_eq_none (by omega)]
      refine ⟨by rw [h1]; simp; omega, fun k hk => ?_, fun k o' hk => ?_⟩
      · rw [h2 k (by omega), List.getElem?_append_left (by omega)]
      · cases k with
        | zero =>
          simp only [List.getElem?_cons_zero, Option.some.injEq] at hk
          subst hk
          refine ⟨d, av, hd, ?_, ?_⟩
          · rw [Nat.add_zero, h2 i (by omega), List.getElem?_append_right (by omega)]; simp [hl]
          · rw [Nat.add_zero, hacc]; exact hdr
        | succ k =>
          obtain ⟨d', av', a1, a2, a3⟩ := h3 k o' (by simpa using hk)
          have e : i + 1 + k = i + (k + 1) := by omega
          rw [e] at a2 a3
          exact ⟨d', av', a1, a2, a3⟩
    have hoi : ops[i]? = some o := by simpa using hops 0 o rfl
    simp only [entsC] at h
    split at h
    · rename_i d hd
      split at h
      · rename_i av hco
        exact fin d av _ _ _ hd h ho hcl (fun e => by rw [hco] at e; cases e)
      · split at h
        · rename_i us R hcs
          split at h
          · rename_i f as q hcd
            split at h
            · rename_i l' obs' calls' he
              simp only [Option.some.injEq, Prod.mk.injEq] at h
              obtain ⟨rfl, rfl, rfl⟩ := h
              obtain ⟨hq1, hq2⟩ := AllP.cons' ho
              obtain ⟨⟨hfn, hR, σ, as0, Lin, e0, hF, hLk, hk⟩, hcl2⟩ := hcl
              subst e0
              exact fin d R _ _ _ hd he hq2 hcl2 (fun _ => (cDrawL_drawn σ hoi hd hcd hq1 hfn hF hLk (by rw [hk, hR]; rfl)).more (LLq_less (upto_le ch ops i) hL))
            · simp at h
          · simp at h
        · split at h
          · rename_i av p hk
            split at h
            · rename_i l' obs' calls' he
              simp only [Option.some.injEq, Prod.mk.injEq] at h
              obtain ⟨rfl, rfl, rfl⟩ := h
              obtain ⟨hq1, hq2⟩ := ho.append
              unfold xDraw at hk
              split at hk
              · rename_i hk0
                obtain rfl := Option.some.inj hk
                exact fin d av _ _ _ hd he hq2 hcl (fun _ => (kDraw_drawn hoi hd hk0 hq1).1)
              · obtain ⟨h5, h6⟩ := aDraw_drawn (L := LLq ch (ch.upto ops i) L) hoi hd (hdn i o d hoi hd) hk hq1
                exact fin d av _ _ _ hd he hq2 hcl (fun _ => h5)
            · simp at h
          · simp at h
    · simp at h

def AllCh (C : Ctx) (ops : Array Oper) (ch : Chain) (out : List (Nat × AV)) (base : Fr) (L : LL) : Nat → Chain → Prop
  | _, [] => True
  | q, c :: r => (∃ o d av, ops[c.1]? = some o ∧ o.dst = some d ∧ out[c.1]? = some (d, av) ∧ CStep C ops c.1 d c.2.1 c.2.2 av (frC ch out base (edgesOf o) q) (ch.at q L)) ∧ AllCh C ops ch out base L (q + 1) r
theorem allCh_at {ops : Array Oper} {ch : Chain} {out : List (Nat × AV)} {base : Fr} : ∀ (r : Chain) (q : Nat), AllCh C ops ch out base L q r → ∀ k c, r[k]? = some c → ∃ o d av, ops[c.1]? = some o ∧ o.dst = some d ∧ out[c.1]? = some (d, av) ∧ CStep C ops c.1 d c.2.1 c.2.2 av (frC ch out base (edgesOf o) (q + k)) (ch.at (q + k) L)
  | [], q, _, k, c, h => by simp at h
  | c0 :: r, q, h, 0, c, hc => by
    simp only [List.getElem?_cons_zero, Option.some.injEq] at hc
    subst hc
    exact h.1
  | c0 :: r, q, h, k + 1, c, hc => by
    have := allCh_at r (q + 1) h.2 k c (by simpa using hc)
    rwa [show q + 1 + k = q + (k + 1) by omega] at this
/-- the operation at i, as a step of the chain -/
def cAt (P : Program) (n : Nat) (ops : Array Oper) (ch : Chain) (out : List (Nat × AV)) (base : Fr) (L : LL) (q i : Nat) : Option (Nat × Nat × LObj × AV × Prop) :=
  match ops[i]? with
  | some o => match o.dst with
    | some d => if d < n then (cDo P (frC ch out base (edgesOf o) q) (ch.at q L) d o).map fun r => (d, r) else none
    | none => none
  | none => none
theorem cAt_step {ops : Array Oper} {ch : Chain} {out : List (Nat × AV)} {base : Fr} {q i d nm : Nat} {ob : LObj} {av : AV} {p : Prop} (h : cAt C.P C.n ops ch out base L q i = some (d, nm, ob, av, p)) (hp : p) :
    ∃ o, ops[i]? = some o ∧ o.dst = some d ∧ CStep C ops i d nm (some ob) av (frC ch out base (edgesOf o) q) (ch.at q L) := by
  unfold cAt at h
  split at h
  · rename_i o ho
    split at h
    · rename_i d' hd
      split at h
      · rename_i hdn
        obtain ⟨⟨r1, r2, r3, r4⟩, hr, he⟩ := Option.map_eq_some_iff.1 h
        simp only [Prod.mk.injEq] at he
        obtain ⟨rfl, rfl, rfl, rfl, rfl⟩ := he
        exact ⟨o, ho, hd, cDo_step ho hd hdn hr hp⟩
      · cases h
    · cases h
  · cases h
theorem chNil {ops : Array Oper} {ch : Chain} {out : List (Nat × AV)} {base : Fr} {q : Nat} : AllCh C ops ch out base L q [] := trivial
theorem chDo {ops : Array Oper} {ch r : Chain} {out : List (Nat × AV)} {base : Fr} {q i d nm : Nat} {ob : LObj} {av : AV} {p : Prop} (h : cAt C.P C.n ops ch out base L q i = some (d, nm, ob, av, p)) (hp : p) (ho : out[i]? = some (d, av)) (t : AllCh C ops ch out base L (q + 1) r) :
    AllCh C ops ch out base L q ((i, nm, some ob) :: r) := by
  obtain ⟨o, h1, h2, h3⟩ := cAt_step h hp
  exact ⟨⟨o, d, av, h1, h2, ho, h3⟩, t⟩
theorem chFz {ops : Array Oper} {ch r : Chain} {out : List (Nat × AV)} {base : Fr} {q i d nm : Nat} {u : Ty} {xs : List u.den} {p : Prop} (h : cAt C.P C.n ops ch out base L q i = some (d, nm, .seq u xs, .one (.slc nm), p)) (hp : p) (hlt : decide (nm < 1000) = true) (ho : out[i]? = some (d, .one (.dat (.slice u) xs))) (t : AllCh C ops ch out base L (q + 1) r) :
    AllCh C ops ch out base L q ((i, nm, none) :: r) := by
  obtain ⟨o, h1, h2, h3⟩ := cAt_step h hp
  exact ⟨⟨o, d, _, h1, h2, ho, h3.frz hlt⟩, t⟩
theorem chCall {ops : Array Oper} {ch r : Chain} {out : List (Nat × AV)} {base : Fr} {q i : Nat} {us : List (Option Ty)} {f : Nat} {as : List AV} {d s t : Nat} {p : Prop} {R : AV} {ob : LObj}
    (hc : CallAt C ops i (frC ch out base (match ops[i]? with | some o => edgesOf o | none => []) q) us f as d p) (hp : p) (hF : FnC C.P f as [] R [(s, ob)]) (hs : (R.within s && ob.plain && nameOk t && decide (t < 1000)) = true)
    (ho : out[i]? = some (d, R.ren fun _ => t)) (tl : AllCh C ops ch out base L (q + 1) r) : AllCh C ops ch out base L q ((i, t, some ob) :: r) := by
  have hst := call1_step (L := ch.at q L) hc hp hF hs
  have hok := hc.ok
  split at hok
  · rename_i o hoi
    rw [hoi] at hst
    have hd : o.dst = some d := by
      split at hok
      · rename_i gd q' hg
        obtain ⟨⟨f', as0⟩, hcall, hd⟩ := Option.bind_eq_some_iff.1 hok
        obtain ⟨as', hco, hd⟩ := Option.bind_eq_some_iff.1 hd
        obtain ⟨d', hdst, he⟩ := Option.map_eq_some_iff.1 hd
        simp only [Prod.mk.injEq] at he
        rw [hdst, he.2.2.1]
      · cases hok
    exact ⟨⟨o, d, _, hoi, hd, ho, hst⟩, tl⟩
  · cases hok
theorem W_drawC5 {B : Code} {p : List Nat} {Q : Post} {fr' : Fr} {L' : LL} (m : Nat) (ch : Chain) (chOut : List (Nat × AV)) (orcs : List (Nat × Orc)) (cs : List (Nat × List (Option Ty) × AV)) (kF kL : List Nat) {out : List (Nat × AV)} {obs : List Prop} {calls : List (Nat × List AV × AV)} (hdr : isDraw (nav B p) = true)
    (hm : C.P.follows .mixedOrders = true) (hok : (drawOkT (opsOf (nav B p)) m [] && dstOk C.n (opsOf (nav B p)) && once fr && once (baseFr (opsOf (nav B p)) m fr) && chOk (opsOf (nav B p)) m ch L out) = true) (hco : (chOut.all fun e => ch.any fun c => c.1 == e.1) = true)
    (he : entsC C.P (opsOf (nav B p)) (baseFr (opsOf (nav B p)) m fr) L ch chOut orcs cs 0 ((opsOf (nav B p)).toList.take m) [] = some (out, obs, calls)) (ho : AllP obs) (hc : AllD C.P (LLq ch ch.length L) calls)
    (hch : AllCh C (opsOf (nav B p)) ch out (baseFr (opsOf (nav B p)) m fr) L 0 ch)
    (hk : restr kF kL (frC ch out (baseFr (opsOf (nav B p)) m fr) (List.range m) ch.length) (ch.at ch.length L) = some (fr', L')) (hn : WO C (opsOf (nav B p)) m (normQ Q) fr' L') : W C (nav B p) Q fr L := by
  have hok' := hok
  simp only [Bool.and_eq_true] at hok'
  obtain ⟨⟨⟨⟨hk1, hk2⟩, _⟩, _⟩, hk5⟩ := hok'
  have hL : (L.map (·.1)).Nodup := by
    unfold chOk at hk5
    simp only [Bool.and_eq_true] at hk5
    exact of_decide_eq_true hk5.1.2
  have hmle : m ≤ (opsOf (nav B p)).size := (drawOkT_parts hk1).1
  obtain ⟨h1, _, h3⟩ := entsC_spec hL _ 0 [] out obs calls rfl he ho hc (fun k o hk => by
    rw [Nat.zero_add]
    have : k < m := by
      have := (List.getElem?_eq_some_iff.1 hk).1
      simp at this; omega
    rw [List.getElem?_take_of_lt this] at hk
    simpa using hk) (fun k o d hk hd => dstOk_spec hk2 hk hd)
  have h3' : ∀ i o, i < m → (opsOf (nav B p))[i]? = some o → ∃ d av, o.dst = some d ∧ out[i]? = some (d, av) ∧ (get chOut i = none → Drawn C (opsOf (nav B p)) i d av (frC ch (out.take i) (baseFr (opsOf (nav B p)) m fr) (edgesOf o) (ch.upto (opsOf (nav B p)) i)) (LLq ch (ch.upto (opsOf (nav B p)) i) L)) := by
    intro i o hi hoi
    have := h3 i o (by rw [List.getElem?_take_of_lt hi]; simpa using hoi)
    simpa using this
  refine W_drawC m ch hdr hm hok (by rw [h1]; simp; omega) (fun i o hi hoi => ?_) (fun i o d av hi hoi hq hd hout => ?_) (fun q c o d av hqc hoc hd hout => ?_) (WO_weaken kF kL hk hn)
  · obtain ⟨d, av, a1, a2, _⟩ := h3' i o hi hoi
    exact ⟨d, av, a1, a2⟩
  · obtain ⟨d', av', a1, a2, a3⟩ := h3' i o hi hoi
    rw [hout] at a2
    simp only [Option.some.injEq, Prod.mk.injEq] at a2
    obtain ⟨rfl, rfl⟩ := a2
    have hnone : get chOut i = none := by
      cases hg : get chOut i with
      | none => rfl
      | some v =>
        have := List.all_eq_true.1 hco _ (get_mem _ _ _ hg)
        obtain ⟨c, hcm, he⟩ := List.any_eq_true.1 this
        exact (hq c hcm (by simpa using he)).elim
    have := a3 hnone
    rwa [frC_take (fun j hj => (edges_ltT hk1 hoi).1 j hj)] at this
  · obtain ⟨o', d', av', b1, b2, b3, b4⟩ := allCh_at ch 0 hch q c hqc
    rw [hoc] at b1
    obtain rfl := Option.some.inj b1
    rw [hout] at b3
    simp only [Option.some.injEq, Prod.mk.injEq] at b3
    obtain ⟨rfl, rfl⟩ := b3
    simpa using b4
end
end Go.Sl

/- A slice compared with nil. -/
namespace Go.Sl
open Go
section
variable {P : Program} {w : World}
theorem run_equal_nil {t e : TypeId} (hu : P.underlying t = some (.slice e)) (a : Option Addr) (n c : Nat) : (Op.equal t (.slice a n c) (.slice none 0 0)).run P w = .ok a.isNone w := by
  show (Op.equalIn (9999 + 1) t (.slice a n c) (.slice none 0 0)).run P w = _
  rw [Op.equalIn]
  cases a <;> simp [run_underlying' hu]
theorem run_eql_nil {t e : TypeId} (hu : P.underlying t = some (.slice e)) (a : Option Addr) (n c : Nat) : (binOp .eql t (.slice a n c) (.slice none 0 0)).run P w = .ok (.bool a.isNone) w := by
  show (do pure (Value.bool (← Op.equal t (.slice a n c) (.slice none 0 0))) : Sem Value).run P w = _
  rw [Sem.run_bind, run_equal_nil hu]; rfl
theorem run_neq_nil {t e : TypeId} (hu : P.underlying t = some (.slice e)) (a : Option Addr) (n c : Nat) : (binOp .neq t (.slice a n c) (.slice none 0 0)).run P w = .ok (.bool (!a.isNone)) w := by
  show (do pure (Value.bool (!(← Op.equal t (.slice a n c) (.slice none 0 0)))) : Sem Value).run P w = _
  rw [Sem.run_bind, run_equal_nil hu]; rfl
end

/-- a slice's data compared with nil: where, and which -/
def nilcmpAt (P : Program) (ops : Array Oper) (i : Nat) (fr : Fr) : Option (Nat × ((t : Ty) × List t.den)) :=
  match ops[i]? with
  | some o => match o.guard, o.dst, o.op with
    | none, some d, .binOp .eql t x (.const (.slice none 0 0)) _ => match P.underlying t, evS fr none x with
      | some (.slice _), some (.one (.dat (.slice u) xs)) => some (d, ⟨u, xs⟩)
      | _, _ => none
    | _, _, _ => none
  | none => none

section
variable {C : Ctx} {fr : Fr} {L : LL} {Q : Post}
theorem WO_nilcmp {ops : Array Oper} {i j d : Nat} {u : Ty} {xs : List u.den} (hj : j = i + 1) (hd : decide (d < C.n) = true) (ha : nilcmpAt C.P ops i fr = some (d, ⟨u, xs⟩))
    (hn : ∀ z : Bool, (z = true → xs = []) → WO C ops j Q (putF fr d (aB z)) L) : WO C ops i Q fr L := by
  intro a w ⟨h, ρ, hr⟩
  unfold nilcmpAt at ha
  split at ha
  · rename_i o ho
    split at ha
    · rename_i d' t x yt hg hdst hop
      split at ha
      · rename_i e u' xs' hu hx
        simp only [Option.some.injEq, Prod.mk.injEq, Sigma.mk.injEq] at ha
        obtain ⟨rfl, rfl, ha⟩ := ha
        obtain rfl := eq_of_heq ha
        have hlen : i < ops.toList.length := by
          have := (Array.getElem?_eq_some_iff.1 ho).1; simpa using this
        have hdrop : ops.toList.drop i = o :: ops.toList.drop j := by
          rw [hj, ← List.getElem_cons_drop hlen]
          congr 1
          have := (Array.getElem?_eq_some_iff.1 ho).2
          simpa using this
        have hv := (evS_sound hr.fr (gd := none) (fun _ _ e => by cases e) hx).1
        obtain ⟨ad, cap, hval, hl, hc, hrest⟩ := sl_form (repV_slice.1 hv)
        rw [hdrop]
        refine wpList_step fun K hK => ?_
        rw [if_pos (by simp [Region.wanted, hg])]
        unfold Oper.wp
        have hrun : (execOp a.eval o).run C.P w = .ok (.value (.bool ad.isNone)) w := by
          have hcst : a.eval (.const (.slice none 0 0)) = .slice none 0 0 := rfl
          have hg2 : ∀ p q n, (eqGuard .eql t p q (.slice ad n cap) (.slice none 0 0)).run C.P w = .ok () w := by
            intro p q n
            unfold eqGuard
            simp
          simp only [execOp, hop, Sem.run_bind, hcst, hval, hg2, Result.andThen_ok, run_eql_nil hu]
          rfl
        rw [hrun, Oper.upon_value, hdst]
        refine hK _ _ (hn ad.isNone (fun hz => ?_) _ _ ⟨h, ρ, hr.putSlot _ _ _ (of_decide_eq_true hd) ((repV_bool (h := h)).2 rfl)⟩)
        cases ad with
        | some _ => cases hz
        | none =>
          rcases hrest with he | ⟨b, off, blk, he, _⟩
          · exact he
          · cases he
      · simp at ha
    · simp at ha
  · simp at ha
end
end Go.Sl

/- What the arguments of a statement read as; from a contract to what a statement asks. -/
namespace Go.Sl
open Go

/-- a datum's numbers fit their kinds, its lists are of a machine's length -/
def Fits : (t : Ty) → t.den → Prop
  | .int k, n => (Lit.int k n).wf = true
  | .bool, _ => True
  | .str, s => s.size ≤ Go.maxLen
  | .slice t, xs => List.length xs ≤ 9223372036854775807 ∧ ∀ (i : Nat) (x : t.den), (show List t.den from xs)[i]? = some x → Fits t x
  | .pair t u, p => Fits t p.1 ∧ Fits u p.2
  | .wrap t, x => Fits t x
  | .arr n t, xs => List.length xs = n ∧ ∀ (i : Nat) (x : t.den), (show List t.den from xs)[i]? = some x → Fits t x

def heapOf (w : World) : Heap := fun b => match w.heap[b]? with
  | some (.cells cur _ _) => some cur.toList
  | _ => none
theorem heapOf_ok (w : World) : HeapOk (heapOf w) w := by
  intro b cs h
  unfold heapOf at h
  split at h
  · rename_i cur e fz hb
    simp only [Option.some.injEq] at h; subst h
    exact ⟨cur, e, fz, hb, List.prefix_refl _⟩
  · cases h

def rdFs (P : Program) (rd : TypeId → Option Ty) : Nat → List Field → Option Ty
  | _, [] => none
  | off, [f] => match rd f.type with
    | some u => if f.offset = off ∧ P.cellsOf f.type = u.size then some u else none
    | none => none
  | off, f :: r => match rd f.type with
    | some u => if f.offset = off ∧ P.cellsOf f.type = u.size then (rdFs P rd (off + u.size) r).map (.pair u) else none
    | none => none

def rdTy (P : Program) : Nat → TypeId → Option Ty
  | 0, _ => none
  | n + 1, t =>
    match P.underlying t with
    | some (.int k) => some (.int k)
    | some .bool => some .bool
    | some .string => some .str
    | some (.slice e) => match rdTy P n e with
      | some u => if P.cellsOf e = u.size ∧ 0 < u.size then some (.slice u) else none
      | none => none
    | some (.array m e) => match rdTy P n e with
      | some u => if P.cellsOf e = u.size ∧ P.cellsOf t = m * u.size then some (.arr m u) else none
      | none => none
    | some (.struct fs) => match rdFs P (rdTy P n) 0 fs.toList with
      | some u => if P.cellsOf t = u.size then some (match fs.toList with | [_] => .wrap u | _ => u) else none
      | none => none
    | _ => none

section
variable {H : Type} {enc : TypeId × Value → H} {P : Program} {w : World} {spare : Nat → Bool} {held : Bool}

theorem cells_cut {a : Addr} {n : Nat} {cs : List Value} (hn : 0 < n) (h : w.cells? 0 a n = some cs) : ∃ blk, a = ⟨a.block, a.off, none⟩ ∧ heapOf w a.block = some blk ∧ a.off + n ≤ blk.length ∧ cs = cut blk a.off n := by
  obtain ⟨_, hl, hc⟩ := World.cells?_some h
  have h0 : w.cell? a = cs[0]? := by simpa [Addr.add] using hc 0 hn
  have h0' : (cs[0]?).isSome := by simp; omega
  rw [← h0] at h0'
  unfold World.cell? at h0'
  split at h0'
  · rename_i cur e fz hb
    have hs : a.spot = none := by
      cases hsp : a.spot with
      | none => rfl
      | some _ => simp [hsp] at h0'
    have each : ∀ i, i < n → cur[a.off + i]? = cs[i]? := by
      intro i hi
      rw [← hc i hi]
      have e1 : (a.add i).block = a.block := by unfold Addr.add; split <;> rfl
      have e2 : (a.add i).off = a.off + i := by unfold Addr.add; split <;> simp_all
      have e3 : (a.add i).spot = none := by unfold Addr.add; split <;> simp_all
      unfold World.cell?
      rw [e1, hb]
      simp [e2, e3]
    have hlen : a.off + n ≤ cur.size := by
      have := each (n - 1) (by omega)
      have h1 : (cs[n - 1]?).isSome := by simp; omega
      rw [← this] at h1
      simp at h1; omega
    refine ⟨cur.toList, ?_, by simp [heapOf, hb], by simpa using hlen, ?_⟩
    · cases a; simp_all
    · apply List.ext_getElem?
      intro i
      by_cases hi : i < n
      · rw [← each i hi]; unfold cut; rw [List.getElem?_take_of_lt hi, List.getElem?_drop]; simp
      · rw [List.getElem?_eq_none (by omega), List.getElem?_eq_none (by simp [cut]; omega)]
  · simp at h0'

theorem list_of {α : Type} {n : Nat} {Q : Nat → α → Prop} (h : ∀ i, i < n → ∃ x, Q i x) : ∃ xs : List α, xs.length = n ∧ ∀ i x, xs[i]? = some x → Q i x := by
  induction n with
  | zero => exact ⟨[], rfl, fun i x hx => by simp at hx⟩
  | succ n ih =>
    obtain ⟨xs, hl, hx⟩ := ih fun i hi => h i (by omega)
    obtain ⟨y, hy⟩ := h n (by omega)
    refine ⟨xs ++ [y], by simp [hl], fun i x hi => ?_⟩
    rcases Nat.lt_trichotomy i n with hlt | rfl | hgt
    · rw [List.getElem?_append_left (by omega)] at hi; exact hx i x hi
    · rw [List.getElem?_append_right (by omega)] at hi; simp [hl] at hi; subst hi; exact hy
    · rw [List.getElem?_eq_none (by simp [hl]; omega)] at hi; cases hi

theorem read_fs {rd : TypeId → Option Ty} {m : Nat}
    (ih : ∀ t u cs x, rd t = some u → DataW.trod enc P w 0 spare held m t cs = some x → ∃ d : u.den, rep (heapOf w) u d cs ∧ Fits u d) :
    ∀ (fs : List Field) (off : Nat) (u : Ty) (cs : List Value), rdFs P rd off fs = some u → off + u.size = cs.length →
      (∀ f ∈ fs, ∃ x, DataW.trod enc P w 0 spare held m f.type ((cs.drop f.offset).take (P.cellsOf f.type)) = some x) → ∃ d : u.den, rep (heapOf w) u d (cs.drop off) ∧ Fits u d
  | [], off, u, cs, hu, _, _ => by simp [rdFs] at hu
  | [f], off, u, cs, hu, hl, hf => by
    simp only [rdFs] at hu
    split at hu
    · rename_i v hv
      split at hu
      · rename_i hc
        obtain ⟨h1, h2⟩ := hc
        obtain rfl := Option.some.inj hu
        obtain ⟨x, hx⟩ := hf f (by simp)
        rw [h1, h2, List.take_of_length_le (by simp; omega)] at hx
        exact ih _ _ _ _ hv hx
      · cases hu
    · cases hu
  | f :: g :: r, off, u, cs, hu, hl, hf => by
    simp only [rdFs] at hu
    split at hu
    · rename_i v hv
      split at hu
      · rename_i hc
        obtain ⟨h1, h2⟩ := hc
        obtain ⟨v2, hv2, rfl⟩ := Option.map_eq_some_iff.1 hu
        simp only [Ty.size] at hl
        obtain ⟨x, hx⟩ := hf f (by simp)
        rw [h1, h2] at hx
        obtain ⟨d1, hd1, hf1⟩ := ih _ _ _ _ hv hx
        obtain ⟨d2, hd2, hf2⟩ := read_fs ih (g :: r) (off + v.size) v2 cs hv2 (by omega) (fun f' hf' => hf f' (by simp [hf']))
        refine ⟨(d1, d2), ⟨_, _, ?_, hd1, hd2⟩, hf1, hf2⟩
        rw [← List.drop_drop, List.take_append_drop]
      · cases hu
    · cases hu

theorem read_ty : ∀ (n m : Nat) (t : TypeId) (u : Ty) (cs : List Value) (x : DataW H × List MemPlace), rdTy P n t = some u → DataW.trod enc P w 0 spare held m t cs = some x →
    ∃ d : u.den, rep (heapOf w) u d cs ∧ Fits u d
  | 0, m, t, u, cs, x, hu, _ => by simp [rdTy] at hu
  | n + 1, m, t, u, cs, x, hu, hx => by
    unfold rdTy at hu
    split at hu
    · rename_i k ht
      obtain rfl := Option.some.inj hu
      obtain ⟨z, rfl, _, hw⟩ := DataW.trod_int ht hx
      exact ⟨z, rfl, hw⟩
    · rename_i ht
      obtain rfl := Option.some.inj hu
      obtain ⟨b, rfl, _⟩ := DataW.trod_bool ht hx
      exact ⟨b, rfl, trivial⟩
    · rename_i ht
      obtain rfl := Option.some.inj hu
      obtain ⟨s, rfl, _, hs⟩ := DataW.trod_string ht hx
      exact ⟨s, rfl, hs⟩
    · rename_i e ht
      split at hu
      · rename_i v hv
        split at hu
        · rename_i hc
          obtain ⟨hsz, hpos⟩ := hc
          obtain rfl := Option.some.inj hu
          rcases DataW.trod_slice ht hx with ⟨rfl, _⟩ | ⟨a, len, cap, elems, rest, m', _, rfl, _, _, hlc, hcm, hel, hat, _, _⟩
          · exact ⟨([] : List v.den), ⟨none, 0, rfl, Nat.zero_le _, Nat.zero_le _, .inl rfl⟩, Nat.zero_le _, fun i x hx => by simp at hx⟩
          · have each : ∀ i, i < len → ∃ d : v.den, ∃ blk, a = ⟨a.block, a.off, none⟩ ∧ heapOf w a.block = some blk ∧ a.off + i * v.size + v.size ≤ blk.length ∧ rep (heapOf w) v d (cut blk (a.off + i * v.size) v.size) ∧ Fits v d := by
              intro i hi
              have h1 := hat i hi
              have h2 : (elems[i]?).isSome := by simp; omega
              rw [← h1] at h2
              obtain ⟨y, hy⟩ := Option.isSome_iff_exists.1 h2
              obtain ⟨cs', hcs, hy'⟩ := Option.bind_eq_some_iff.1 hy
              rw [hsz] at hcs
              obtain ⟨blk, ha, hb, hl, rfl⟩ := cells_cut hpos hcs
              obtain ⟨d, hd, hf⟩ := read_ty n _ _ _ _ _ hv hy'
              have e1 : (a.add (i * v.size)).block = a.block := by unfold Addr.add; split <;> rfl
              have e2 : (a.add (i * v.size)).off = a.off + i * v.size := by
                unfold Addr.add; split
                · omega
                · rfl
              have e3 : a = ⟨a.block, a.off, none⟩ := by
                by_cases hi0 : i * v.size = 0
                · rw [hi0] at ha; simpa [Addr.add] using ha
                · -- the first element tells
                  have h1 := hat 0 (by omega)
                  have h2 : (elems[0]?).isSome := by simp; omega
                  rw [← h1] at h2
                  obtain ⟨y, hy⟩ := Option.isSome_iff_exists.1 h2
                  obtain ⟨cs', hcs, _⟩ := Option.bind_eq_some_iff.1 hy
                  rw [hsz] at hcs
                  obtain ⟨_, ha, _⟩ := cells_cut hpos hcs
                  simpa [Addr.add] using ha
              rw [e1] at hb; rw [e2] at hl hd
              exact ⟨d, blk, e3, hb, hl, hd, hf⟩
            obtain ⟨xs, hxl, hxs⟩ := list_of each
            have hxl' : List.length xs = len := hxl
            refine ⟨xs, ⟨some a, cap, by rw [hxl'], ?_, by omega, ?_⟩, ?_, fun i x hi => ?_⟩
            · rw [hxl']; unfold maxSl; have : cap ≤ 2 ^ 63 - 1 := hcm; omega
            · by_cases h0 : len = 0
              · left; exact List.eq_nil_of_length_eq_zero (by omega)
              · right
                obtain ⟨_, blk, e3, hb, _⟩ := each 0 (by omega)
                refine ⟨a.block, a.off, blk, by rw [← e3], hb, ?_, fun i x hi => ?_⟩
                · obtain ⟨_, blk', _, hb', hl, _⟩ := each (len - 1) (by omega)
                  rw [hb] at hb'; obtain rfl := Option.some.inj hb'
                  rw [hxl']
                  have : len * v.size = (len - 1) * v.size + v.size := by
                    have : len = (len - 1) + 1 := by omega
                    conv => lhs; rw [this]
                    rw [Nat.add_mul, Nat.one_mul]
                  omega
                · obtain ⟨blk', _, hb', _, hd, _⟩ := hxs i x hi
                  rw [hb] at hb'; obtain rfl := Option.some.inj hb'
                  exact hd
            · rw [hxl']; have : cap ≤ 2 ^ 63 - 1 := hcm; omega
            · obtain ⟨_, _, _, _, _, hf⟩ := hxs i x hi
              exact hf
        · cases hu
      · cases hu
    · rename_i k e ht
      split at hu
      · rename_i v hv
        split at hu
        · rename_i hc
          obtain ⟨hsz, htot⟩ := hc
          obtain rfl := Option.some.inj hu
          obtain ⟨xs, m', _, _, hlen, hxl, hat⟩ := DataW.trod_array ht hx
          have each : ∀ i, i < k → ∃ d : v.den, rep (heapOf w) v d (cut cs (i * v.size) v.size) ∧ Fits v d := by
            intro i hi
            have h1 := hat i hi
            have h2 : (xs[i]?).isSome := by simp; omega
            rw [← h1, hsz] at h2
            obtain ⟨y, hy⟩ := Option.isSome_iff_exists.1 h2
            exact read_ty n _ _ _ _ _ hv hy
          obtain ⟨ys, hyl, hys⟩ := list_of each
          exact ⟨ys, ⟨hyl, by rw [hlen, htot], fun i x hi => (hys i x hi).1⟩, hyl, fun i x hi => (hys i x hi).2⟩
        · cases hu
      · cases hu
    · rename_i fs ht
      split at hu
      · rename_i v hv
        split at hu
        · rename_i hc
          obtain ⟨xs, m', hm, _, hlen, hxl, hat⟩ := DataW.trod_struct ht hx
          have key : ∃ d : v.den, rep (heapOf w) v d cs ∧ Fits v d := by
            have := read_fs (enc := enc) (P := P) (w := w) (spare := spare) (held := held) (m := m') (fun t u cs x h1 h2 => read_ty n m' t u cs x h1 h2) fs.toList 0 v cs hv (by omega) (fun f hf => by
              obtain ⟨i, hi⟩ := List.getElem?_of_mem hf
              have h1 := hat i f (by simpa using hi)
              have h2 : (xs[i]?).isSome := by
                have := (List.getElem?_eq_some_iff.1 hi).1
                simp at this ⊢; omega
              rw [← h1] at h2
              exact Option.isSome_iff_exists.1 h2)
            simpa using this
          obtain ⟨d, hd, hf⟩ := key
          split at hu
          · obtain rfl := Option.some.inj hu
            exact ⟨d, hd, hf⟩
          · obtain rfl := Option.some.inj hu
            exact ⟨d, hd, hf⟩
        · cases hu
      · cases hu
    · cases hu
termination_by n => n
end
end Go.Sl

namespace Go.Sl
open Go Go.RowKit
/-- what a contract without objects says of a world -/
theorem Out.below {h h' : Heap} {ρ ρ' : Nat → Value} {w w' : World} {Lout : LL} (o : Out h ρ w [] h' ρ' w' Lout) : Below w.heap.size w w' :=
  ⟨o.os, o.tape, o.output, o.grow, fun k hk => o.frame k hk fun s x hs => by simp [get] at hs⟩

/-- from a contract to what a statement asks -/
theorem law_of {P : Program} {f : Nat} {args : List AV} {b : Bool} {w : World} {vs : List Value} (hF : FnC P f args [] (aB b) []) (hb : b = true) (ha : All2 (VRel (heapOf w) (fun _ => undef) #[]) args vs) :
    Calls P f vs.toArray w fun e w' => e = .returned (.bool true) ∧ Below w.heap.size w w' := by
  subst hb
  refine (hF (heapOf w) (fun _ => undef) w vs (heapOf_ok w) (fun s o hs => by simp [get] at hs) (fun s s' o o' b _ hs => by simp [get] at hs) ha).mono ?_
  rintro e w' ⟨v, h', ρ', rfl, hv, ho⟩
  have : v = .bool true := (repV_bool (h := h')).1 hv
  subst this
  exact ⟨rfl, ho.below⟩

/-- an argument read -/
theorem read_arg {H : Type} {enc : TypeId × Value → H} {P : Program} {w : World} {spare : Nat → Bool} {held : Bool} {r : Reach} {base : Nat} {t : TypeId} {u : Ty} {v : Value} {d : DataW H} {ps : List MemPlace}
    (hu : rdTy P 12 t = some u) (hag : aggOf P t = some u.isAgg) (hf : Value.okWide P w r base t v) (h : DataW.Trod enc P w 0 spare held t v d ps) : ∃ x : u.den, Fits u x ∧ ∀ ρ tm, VRel (heapOf w) ρ tm (aD u x) v := by
  obtain ⟨fuel, hx⟩ := h
  obtain ⟨x, hr, hfit⟩ := read_ty 12 fuel t u _ _ hu hx
  refine ⟨x, hfit, fun ρ tm => ?_⟩
  show RepV (heapOf w) u x v
  unfold RepV
  unfold aggOf at hag
  cases ha : u.isAgg with
  | true =>
    rw [if_pos rfl]
    rw [ha] at hag
    unfold Value.okWide at hf
    split at hag
    · rename_i fs ht
      rw [ht] at hf
      obtain ⟨cs, rfl, _⟩ := hf
      exact ⟨cs, rfl, hr⟩
    · rename_i n e ht
      rw [ht] at hf
      obtain ⟨cs, rfl, _⟩ := hf
      exact ⟨cs, rfl, hr⟩
    · simp at hag
    · simp at hag
  | false =>
    rw [if_neg (by simp)]
    have key : v.cells.toList = [v] := by
      unfold rdTy at hu
      split at hu
      · rename_i ht; obtain ⟨n, rfl⟩ := WideShapes.okWide_int ht hf; rfl
      · rename_i ht; obtain ⟨n, rfl⟩ := WideShapes.okWide_bool ht hf; rfl
      · rename_i ht; obtain ⟨n, rfl⟩ := WideShapes.okWide_string ht hf; rfl
      · rename_i ht; obtain ⟨a, b, c, rfl⟩ := WideShapes.okWide_slice ht hf; rfl
      · rename_i n e ht
        rw [ht] at hag
        simp [ha] at hag
      · rename_i fs ht
        rw [ht] at hag
        simp [ha] at hag
      · cases hu
    rw [key] at hr
    exact hr
end Go.Sl

/- Plain facts that the laws use. -/
namespace Go.Sl
open Go

theorem Fits.i64 {x : Int} (h : Fits (.int .i64) x) : -9223372036854775808 ≤ x ∧ x ≤ 9223372036854775807 := by
  have h1 : (decide (IntKind.i64.min ≤ x) && decide (x ≤ IntKind.i64.max)) = true := h
  simp only [Bool.and_eq_true, decide_eq_true_eq] at h1
  have a : IntKind.i64.min = -9223372036854775808 := by decide
  have b : IntKind.i64.max = 9223372036854775807 := by decide
  omega
theorem Fits.lo {x : Int} (h : Fits (.int .i64) x) : -9223372036854775808 ≤ x := h.i64.1
theorem Fits.hi {x : Int} (h : Fits (.int .i64) x) : x ≤ 9223372036854775807 := h.i64.2
theorem Fits.u8 {x : Int} (h : Fits (.int .u8) x) : 0 ≤ x ∧ x ≤ 255 := by
  have h1 : (decide (IntKind.u8.min ≤ x) && decide (x ≤ IntKind.u8.max)) = true := h
  simp only [Bool.and_eq_true, decide_eq_true_eq] at h1
  have a : IntKind.u8.min = 0 := by decide
  have b : IntKind.u8.max = 255 := by decide
  omega
theorem Fits.u32 {x : Int} (h : Fits (.int .u32) x) : 0 ≤ x ∧ x ≤ 4294967295 := by
  have h1 : (decide (IntKind.u32.min ≤ x) && decide (x ≤ IntKind.u32.max)) = true := h
  simp only [Bool.and_eq_true, decide_eq_true_eq] at h1
  have a : IntKind.u32.min = 0 := by decide
  have b : IntKind.u32.max = 4294967295 := by decide
  omega
theorem Fits.u64 {x : Int} (h : Fits (.int .u64) x) : 0 ≤ x ∧ x ≤ 18446744073709551615 := by
  have h1 : (decide (IntKind.u64.min ≤ x) && decide (x ≤ IntKind.u64.max)) = true := h
  simp only [Bool.and_eq_true, decide_eq_true_eq] at h1
  have a : IntKind.u64.min = 0 := by decide
  have b : IntKind.u64.max = 18446744073709551615 := by decide
  omega
theorem Fits.len {t : Ty} {xs : List t.den} (h : Fits (.slice t) xs) : (xs.length : Int) ≤ 9223372036854775807 := by
  have := h.1
  have h2 : List.length xs ≤ 9223372036854775807 := this
  omega
theorem Fits.get {t : Ty} {xs : List t.den} (h : Fits (.slice t) xs) {i : Nat} {x : t.den} (hx : xs[i]? = some x) : Fits t x := h.2 i x hx
theorem Fits.mem {t : Ty} {xs : List t.den} (h : Fits (.slice t) xs) {x : t.den} (hx : x ∈ xs) : Fits t x := by
  obtain ⟨i, hi⟩ := List.getElem?_of_mem hx
  exact h.2 i x hi

theorem ck_ok {p : Prop} [Decidable p] (h : p) : ck p = some () := by unfold ck; rw [if_pos h]
theorem idx_nat {α : Type} {xs : List α} {n : Nat} : idx xs (n : Int) = xs[n]? := by unfold idx; rw [if_pos (by omega)]; simp
theorem idx_get {α : Type} {xs : List α} {i : Int} (h0 : 0 ≤ i) (h1 : i < (xs.length : Int)) : ∃ x, idx xs i = some x ∧ xs[i.toNat]? = some x := by
  have : i.toNat < xs.length := by omega
  exact ⟨xs[i.toNat], by unfold idx; rw [if_pos h0]; exact List.getElem?_eq_getElem this, List.getElem?_eq_getElem this⟩
theorem bif_t {α : Type} {c : Bool} {a b : α} (h : c = true) : (bif c then a else b) = a := by subst h; rfl
theorem bif_f {α : Type} {c : Bool} {a b : α} (h : c = false) : (bif c then a else b) = b := by subst h; rfl
theorem bif_some {α : Type} {c : Bool} {a b : α} : (bif c then some a else some b) = some (bif c then a else b) := by cases c <;> rfl
theorem bind_some' {α β : Type} {a : α} {f : α → Option β} : (some a).bind f = f a := rfl

/-- a counted loop, stepped -/
theorem loopI_inv {X Y : Type} {body : Int → X → Option (Flow X Y)} {fin : X → Y} {hi : Int} (Inv : Int → X → Prop) (Post : Y → Prop)
    (hstep : ∀ i x, i < hi → Inv i x → ∃ s, body i x = some s ∧ (match s with | .next x' => Inv (i + 1) x' | .done y => Post y)) (hfin : ∀ i x, hi ≤ i → Inv i x → Post (fin x)) :
    ∀ (k : Nat) (i : Int) (x : X), (hi - i).toNat = k → Inv i x → ∃ y, loopI body fin k i x = some y ∧ Post y
  | 0, i, x, hk, h => ⟨fin x, rfl, hfin i x (by omega) h⟩
  | k + 1, i, x, hk, h => by
    obtain ⟨s, hs, hp⟩ := hstep i x (by omega) h
    simp only [loopI, hs]
    cases s with
    | next x' => exact loopI_inv Inv Post hstep hfin k (i + 1) x' (by omega) hp
    | done y => exact ⟨y, rfl, hp⟩
theorem forI_inv {X Y : Type} {body : Int → X → Option (Flow X Y)} {fin : X → Y} {lo hi : Int} {x : X} (Inv : Int → X → Prop) (Post : Y → Prop) (h1 : -9223372036854775808 ≤ lo) (h2 : hi ≤ 9223372036854775807) (h0 : Inv lo x)
    (hstep : ∀ i x, lo ≤ i → i < hi → Inv i x → ∃ s, body i x = some s ∧ (match s with | .next x' => Inv (i + 1) x' | .done y => Post y)) (hfin : ∀ i x, lo ≤ i → hi ≤ i → (i = lo ∨ i = hi) → Inv i x → Post (fin x)) :
    ∃ y, forI lo hi body fin x = some y ∧ Post y := by
  unfold forI
  rw [if_pos ⟨h1, h2⟩]
  refine loopI_inv (fun i x => lo ≤ i ∧ (i = lo ∨ i ≤ hi) ∧ Inv i x) Post ?_ ?_ _ lo x rfl ⟨by omega, .inl rfl, h0⟩
  · rintro i x hi ⟨hl, _, hv⟩
    obtain ⟨s, hs, hp⟩ := hstep i x hl hi hv
    refine ⟨s, hs, ?_⟩
    cases s with
    | next x' => exact ⟨by omega, .inr (by omega), hp⟩
    | done y => exact hp
  · rintro i x hi ⟨hl, hh, hv⟩
    exact hfin i x hl hi (by omega) hv
theorem forL_inv' {α X Y : Type} {body : Int → α → X → Option (Flow X Y)} {fin : X → Y} {l : List α} (Inv : Nat → X → Prop) (Post : Y → Prop)
    (hstep : ∀ (n : Nat) a x, l[n]? = some a → Inv n x → ∃ s, body n a x = some s ∧ (match s with | .next x' => Inv (n + 1) x' | .done y => Post y)) (hfin : ∀ x, Inv l.length x → Post (fin x)) :
    ∀ (r p : List α) (x : X), l = p ++ r → Inv p.length x → ∃ y, forL body fin r (p.length : Int) x = some y ∧ Post y
  | [], p, x, hp, h => ⟨fin x, rfl, hfin x (by subst hp; simpa using h)⟩
  | a :: r, p, x, hp, h => by
    obtain ⟨s, hs, hq⟩ := hstep p.length a x (by subst hp; simp) h
    simp only [forL, hs]
    cases s with
    | next x' =>
      have := forL_inv' Inv Post hstep hfin r (p ++ [a]) x' (by simp [hp]) (by simpa using hq)
      simpa using this
    | done y => exact ⟨y, rfl, hq⟩
theorem forL_inv {α X Y : Type} {body : Int → α → X → Option (Flow X Y)} {fin : X → Y} {l : List α} {x : X} (Inv : Nat → X → Prop) (Post : Y → Prop) (h0 : Inv 0 x)
    (hstep : ∀ (n : Nat) a x, l[n]? = some a → Inv n x → ∃ s, body n a x = some s ∧ (match s with | .next x' => Inv (n + 1) x' | .done y => Post y)) (hfin : ∀ x, Inv l.length x → Post (fin x)) :
    ∃ y, forL body fin l 0 x = some y ∧ Post y := by
  simpa using forL_inv' Inv Post hstep hfin l [] x rfl h0
/-- a loop with fuel, by a measure -/
theorem iter_inv {X Y : Type} {f : X → Option (Flow X Y)} (Inv : X → Prop) (m : X → Nat) (Post : Y → Prop)
    (hstep : ∀ x, Inv x → ∃ s, f x = some s ∧ (match s with | .next x' => Inv x' ∧ m x' < m x | .done y => Post y)) :
    ∀ (n : Nat) (x : X), m x < n → Inv x → ∃ y, iter f n x = some y ∧ Post y
  | 0, x, hn, _ => by omega
  | n + 1, x, hn, h => by
    obtain ⟨s, hs, hp⟩ := hstep x h
    simp only [iter, hs]
    cases s with
    | next x' => exact iter_inv Inv m Post hstep n x' (by omega) hp.1
    | done y => exact ⟨y, rfl, hp⟩

/-- a loop that looks for the first element that is bad -/
theorem forL_ex {α Y : Type} {body : Int → α → Unit → Option (Flow Unit Y)} {fin : Unit → Y} {p : α → Bool} {y : Y} : ∀ {l : List α}, (∀ i a, a ∈ l → body i a () = some (bif p a then .done y else .next ())) → ∀ {i : Int}, forL body fin l i () = some (bif l.any p then y else fin ())
  | [], _, i => rfl
  | a :: l, hb, i => by
    simp only [forL, hb i a (by simp), List.any_cons]
    cases hp : p a with
    | true => rfl
    | false => simpa using forL_ex (fun i a ha => hb i a (by simp [ha]))
theorem forL_at {α Y : Type} {body : Int → α → Unit → Option (Flow Unit Y)} {fin : Unit → Y} {p : α → Bool} {g : Int → Y} : ∀ {l : List α}, (∀ i a, a ∈ l → body i a () = some (bif p a then .done (g i) else .next ())) → ∀ {i : Int},
    (l.any p = false ∧ forL body fin l i () = some (fin ())) ∨ (l.any p = true ∧ ∃ j, i ≤ j ∧ j < i + l.length ∧ forL body fin l i () = some (g j))
  | [], _, i => .inl ⟨rfl, rfl⟩
  | a :: l, hb, i => by
    simp only [forL, hb i a (by simp), List.any_cons]
    cases hp : p a with
    | true => exact .inr ⟨rfl, i, by omega, by simp; omega, rfl⟩
    | false =>
      rcases forL_at (body := body) (fin := fin) (p := p) (g := g) (l := l) (fun i a ha => hb i a (List.mem_cons_of_mem _ ha)) (i := i + 1) with ⟨h1, h2⟩ | ⟨h1, j, h2, h3, h4⟩
      · exact .inl ⟨by simpa using h1, h2⟩
      · exact .inr ⟨by simpa using h1, j, by omega, by simp only [List.length_cons]; omega, h4⟩
/-- a loop that goes through -/
theorem forL_fold {α X Y : Type} {body : Int → α → X → Option (Flow X Y)} {fin : X → Y} {g : X → α → X} : ∀ {l : List α}, (∀ i a x, a ∈ l → body i a x = some (.next (g x a))) → ∀ {i : Int} {x : X}, forL body fin l i x = some (fin (l.foldl g x))
  | [], _, i, x => rfl
  | a :: l, hb, i, x => by
    simp only [forL, hb i a x (by simp), List.foldl_cons]
    exact forL_fold (fun i a x ha => hb i a x (by simp [ha]))
theorem forL_congr {α X Y : Type} {body body' : Int → α → X → Option (Flow X Y)} {fin : X → Y} : ∀ {l : List α}, (∀ i a x, a ∈ l → body i a x = body' i a x) → ∀ {i : Int} {x : X}, forL body fin l i x = forL body' fin l i x
  | [], _, i, x => rfl
  | a :: l, hb, i, x => by
    simp only [forL, hb i a x (by simp)]
    cases body' i a x with
    | none => rfl
    | some s => cases s with
      | next x' => exact forL_congr (fun i a x ha => hb i a x (by simp [ha]))
      | done y => rfl
theorem and_dec {p q : Prop} [Decidable p] [Decidable q] : (decide p && decide q) = decide (p ∧ q) := (Bool.decide_and p q).symm
theorem or_dec {p q : Prop} [Decidable p] [Decidable q] : (decide p || decide q) = decide (p ∨ q) := (Bool.decide_or p q).symm
theorem not_dec {p : Prop} [Decidable p] : (!decide p) = decide (¬ p) := by by_cases h : p <;> simp [h]
end Go.Sl

/- Words as bits; loops side by side. -/
namespace Go.Sl
open Go

theorem wrap_i64 {n : Int} (h1 : -9223372036854775808 ≤ n) (h2 : n ≤ 9223372036854775807) : IntKind.wrap .i64 n = n := w64_id h1 h2
theorem wrap_u64 {n : Int} (h1 : 0 ≤ n) (h2 : n ≤ 18446744073709551615) : IntKind.wrap .u64 n = n := by
  unfold IntKind.wrap
  simp only [IntKind.bits, IntKind.signed, Bool.false_and, Int.reducePow, Nat.reduceSub, Bool.false_eq_true, if_false]
  omega
theorem wrap_u32 {n : Int} (h1 : 0 ≤ n) (h2 : n ≤ 4294967295) : IntKind.wrap .u32 n = n := by
  unfold IntKind.wrap
  simp only [IntKind.bits, IntKind.signed, Bool.false_and, Int.reducePow, Nat.reduceSub, Bool.false_eq_true, if_false]
  omega
theorem wrap_u8 {n : Int} (h1 : 0 ≤ n) (h2 : n ≤ 255) : IntKind.wrap .u8 n = n := by
  unfold IntKind.wrap
  simp only [IntKind.bits, IntKind.signed, Bool.false_and, Int.reducePow, Nat.reduceSub, Bool.false_eq_true, if_false]
  omega
theorem wnat {n : Nat} (h : n ≤ 9223372036854775807) : w64 (n : Int) = n := w64_id (by omega) (by omega)

theorem toNat_ofInt (k a : Nat) : (BitVec.ofInt k (a : Int)).toNat = a % 2 ^ k := by
  rw [BitVec.ofInt_natCast, BitVec.toNat_ofNat]
theorem bAnd_nat {a b : Nat} (ha : a < 2 ^ 63) (hb : b < 2 ^ 63) : bAnd .i64 a b = ((a &&& b : Nat) : Int) := by
  unfold bAnd
  rw [BitVec.toNat_and, toNat_ofInt, toNat_ofInt, show IntKind.i64.bits = 64 from rfl, Nat.mod_eq_of_lt (by omega), Nat.mod_eq_of_lt (by omega)]
  have : a &&& b ≤ a := Nat.and_le_left
  exact wrap_i64 (by omega) (by omega)
theorem bOr_nat {a b : Nat} (ha : a < 2 ^ 63) (hb : b < 2 ^ 63) : bOr .i64 a b = ((a ||| b : Nat) : Int) := by
  unfold bOr
  rw [BitVec.toNat_or, toNat_ofInt, toNat_ofInt, show IntKind.i64.bits = 64 from rfl, Nat.mod_eq_of_lt (by omega), Nat.mod_eq_of_lt (by omega)]
  have : a ||| b < 2 ^ 63 := Nat.or_lt_two_pow ha hb
  exact wrap_i64 (by omega) (by omega)
theorem bXor_nat {a b : Nat} (ha : a < 2 ^ 63) (hb : b < 2 ^ 63) : bXor .i64 a b = ((a ^^^ b : Nat) : Int) := by
  unfold bXor
  rw [BitVec.toNat_xor, toNat_ofInt, toNat_ofInt, show IntKind.i64.bits = 64 from rfl, Nat.mod_eq_of_lt (by omega), Nat.mod_eq_of_lt (by omega)]
  have : a ^^^ b < 2 ^ 63 := Nat.xor_lt_two_pow ha hb
  exact wrap_i64 (by omega) (by omega)
theorem bShl_one {i : Nat} (hi : i < 63) : bShl .i64 1 (i : Int) = ((2 ^ i : Nat) : Int) := by
  unfold bShl
  have : (2 : Nat) ^ i < 2 ^ 63 := Nat.pow_lt_pow_right (by omega) hi
  rw [Int.toNat_natCast, show IntKind.i64.bits = 64 from rfl, Nat.min_eq_left (by omega), Int.one_mul]
  have e : ((2 : Int) ^ i) = ((2 ^ i : Nat) : Int) := by simp
  rw [e]
  generalize (2 : Nat) ^ i = q at this ⊢
  exact wrap_i64 (by omega) (by omega)
theorem bShr_nat {k : IntKind} {a i : Nat} (hi : i < 8) : bShr k a (i : Int) = ((a / 2 ^ i : Nat) : Int) := by
  unfold bShr
  have : i ≤ k.bits := by cases k <;> simp [IntKind.bits] <;> omega
  rw [Int.toNat_natCast, Nat.min_eq_left this]
  have e : ((2 : Int) ^ i) = ((2 ^ i : Nat) : Int) := by simp
  rw [e, Int.natCast_ediv, Int.fdiv_eq_ediv_of_nonneg _ (Int.natCast_nonneg _)]
theorem bShr_nat64 {a i : Nat} (hi : i < 64) : bShr .i64 a (i : Int) = ((a / 2 ^ i : Nat) : Int) := by
  unfold bShr
  rw [Int.toNat_natCast, show IntKind.i64.bits = 64 from rfl, Nat.min_eq_left (by omega)]
  have e : ((2 : Int) ^ i) = ((2 ^ i : Nat) : Int) := by simp
  rw [e, Int.natCast_ediv, Int.fdiv_eq_ediv_of_nonneg _ (Int.natCast_nonneg _)]
theorem and_pow (w i : Nat) : w &&& 2 ^ i = if w.testBit i then 2 ^ i else 0 := by
  apply Nat.eq_of_testBit_eq
  intro j
  rw [Nat.testBit_and, Nat.testBit_two_pow]
  by_cases h : i = j
  · subst h
    cases h2 : w.testBit i <;> simp [Nat.testBit_two_pow]
  · cases h2 : w.testBit i <;> simp [h, Nat.testBit_two_pow]
/-- a bit, asked for by a mask -/
theorem bit_mask {w i : Nat} (hw : w < 2 ^ 63) (hi : i < 63) : (bAnd .i64 w (bShl .i64 1 (i : Int)) != 0) = w.testBit i := by
  have : (2 : Nat) ^ i < 2 ^ 63 := Nat.pow_lt_pow_right (by omega) hi
  rw [bShl_one hi, bAnd_nat hw this, and_pow]
  have : 0 < (2 : Nat) ^ i := Nat.pow_pos (by omega)
  cases w.testBit i with
  | false => simp
  | true =>
    generalize (2 : Nat) ^ i = q at this ⊢
    simp; omega
/-- a bit, asked for by a shift -/
theorem bit_shift {w i : Nat} (hw : w < 2 ^ 63) (hi : i < 64) : (bAnd .i64 (bShr .i64 w (i : Int)) 1 == 1) = w.testBit i := by
  have h1 : w / 2 ^ i ≤ w := Nat.div_le_self _ _
  rw [bShr_nat64 hi, show (1 : Int) = ((1 : Nat) : Int) from rfl, bAnd_nat (by omega) (by omega), Nat.and_one_is_mod, Nat.testBit_eq_decide_div_mod_eq]
  have h2 := Nat.mod_two_eq_zero_or_one (w / 2 ^ i)
  rcases h2 with h | h <;> rw [h] <;> rfl

/-! ### loops side by side -/
theorem forL_rel' {α α' X X' Y Y' : Type} {body : Int → α → X → Option (Flow X Y)} {body' : Int → α' → X' → Option (Flow X' Y')} {fin : X → Y} {fin' : X' → Y'} {l : List α} {l' : List α'} (R : Nat → X → X' → Prop) (S : Y → Y' → Prop)
    (hstep : ∀ (n : Nat) a a' x x', l[n]? = some a → l'[n]? = some a' → R n x x' → ∃ s s', body n a x = some s ∧ body' n a' x' = some s' ∧ (match s, s' with | .next y, .next y' => R (n + 1) y y' | .done y, .done y' => S y y' | _, _ => False))
    (hfin : ∀ x x', R l.length x x' → S (fin x) (fin' x')) :
    ∀ (r p : List α) (r' p' : List α') (x : X) (x' : X'), l = p ++ r → l' = p' ++ r' → p.length = p'.length → r.length = r'.length → R p.length x x' → ∃ y y', forL body fin r (p.length : Int) x = some y ∧ forL body' fin' r' (p.length : Int) x' = some y' ∧ S y y'
  | [], p, [], p', x, x', hp, hp', hl, hr, h => ⟨fin x, fin' x', rfl, rfl, hfin x x' (by subst hp; simpa using h)⟩
  | a :: r, p, a' :: r', p', x, x', hp, hp', hl, hr, h => by
    obtain ⟨s, s', hs, hs', hq⟩ := hstep p.length a a' x x' (by subst hp; simp) (by subst hp'; simp [hl]) h
    simp only [forL, hs, hs']
    cases s with
    | next y =>
      cases s' with
      | next y' =>
        have := forL_rel' (fin := fin) (fin' := fin') R S hstep hfin r (p ++ [a]) r' (p' ++ [a']) y y' (by simp [hp]) (by simp [hp']) (by simp [hl]) (by simpa using hr) (by simpa using hq)
        simpa using this
      | done y' => exact hq.elim
    | done y =>
      cases s' with
      | next y' => exact hq.elim
      | done y' => exact ⟨y, y', rfl, rfl, hq⟩
theorem forL_rel {α α' X X' Y Y' : Type} {body : Int → α → X → Option (Flow X Y)} {body' : Int → α' → X' → Option (Flow X' Y')} {fin : X → Y} {fin' : X' → Y'} {l : List α} {l' : List α'} {x : X} {x' : X'} (R : Nat → X → X' → Prop) (S : Y → Y' → Prop)
    (hlen : l.length = l'.length) (h0 : R 0 x x')
    (hstep : ∀ (n : Nat) a a' x x', l[n]? = some a → l'[n]? = some a' → R n x x' → ∃ s s', body n a x = some s ∧ body' n a' x' = some s' ∧ (match s, s' with | .next y, .next y' => R (n + 1) y y' | .done y, .done y' => S y y' | _, _ => False))
    (hfin : ∀ x x', R l.length x x' → S (fin x) (fin' x')) : ∃ y y', forL body fin l 0 x = some y ∧ forL body' fin' l' 0 x' = some y' ∧ S y y' := by
  simpa using forL_rel' R S hstep hfin l [] l' [] x x' rfl rfl rfl hlen h0

theorem loopI_rel {X X' Y Y' : Type} {body : Int → X → Option (Flow X Y)} {body' : Int → X' → Option (Flow X' Y')} {fin : X → Y} {fin' : X' → Y'} {hi : Int} (R : Int → X → X' → Prop) (S : Y → Y' → Prop)
    (hstep : ∀ i x x', i < hi → R i x x' → ∃ s s', body i x = some s ∧ body' i x' = some s' ∧ (match s, s' with | .next y, .next y' => R (i + 1) y y' | .done y, .done y' => S y y' | _, _ => False))
    (hfin : ∀ i x x', hi ≤ i → R i x x' → S (fin x) (fin' x')) :
    ∀ (k : Nat) (i : Int) (x : X) (x' : X'), (hi - i).toNat = k → R i x x' → ∃ y y', loopI body fin k i x = some y ∧ loopI body' fin' k i x' = some y' ∧ S y y'
  | 0, i, x, x', hk, h => ⟨_, _, rfl, rfl, hfin i x x' (by omega) h⟩
  | k + 1, i, x, x', hk, h => by
    obtain ⟨s, s', hs, hs', hp⟩ := hstep i x x' (by omega) h
    simp only [loopI, hs, hs']
    cases s with
    | next y =>
      cases s' with
      | next y' => exact loopI_rel R S hstep hfin k (i + 1) y y' (by omega) hp
      | done y' => exact hp.elim
    | done y =>
      cases s' with
      | next y' => exact hp.elim
      | done y' => exact ⟨y, y', rfl, rfl, hp⟩
theorem forI_rel {X X' Y Y' : Type} {body : Int → X → Option (Flow X Y)} {body' : Int → X' → Option (Flow X' Y')} {fin : X → Y} {fin' : X' → Y'} {lo hi : Int} {x : X} {x' : X'} (R : Int → X → X' → Prop) (S : Y → Y' → Prop)
    (h1 : -9223372036854775808 ≤ lo) (h2 : hi ≤ 9223372036854775807) (h0 : R lo x x')
    (hstep : ∀ i x x', lo ≤ i → i < hi → R i x x' → ∃ s s', body i x = some s ∧ body' i x' = some s' ∧ (match s, s' with | .next y, .next y' => R (i + 1) y y' | .done y, .done y' => S y y' | _, _ => False))
    (hfin : ∀ i x x', lo ≤ i → (i = lo ∨ i = hi) → hi ≤ i → R i x x' → S (fin x) (fin' x')) : ∃ y y', forI lo hi body fin x = some y ∧ forI lo hi body' fin' x' = some y' ∧ S y y' := by
  unfold forI
  rw [if_pos ⟨h1, h2⟩, if_pos ⟨h1, h2⟩]
  refine loopI_rel (fun i x x' => lo ≤ i ∧ (i = lo ∨ i ≤ hi) ∧ R i x x') S ?_ ?_ _ lo x x' rfl ⟨by omega, .inl rfl, h0⟩
  · rintro i x x' hi ⟨hl, _, hv⟩
    obtain ⟨s, s', hs, hs', hp⟩ := hstep i x x' hl hi hv
    refine ⟨s, s', hs, hs', ?_⟩
    cases s with
    | next y =>
      cases s' with
      | next y' => exact ⟨by omega, .inr (by omega), hp⟩
      | done y' => exact hp
    | done y =>
      cases s' with
      | next y' => exact hp
      | done y' => exact hp
  · rintro i x x' hi ⟨hl, hh, hv⟩
    exact hfin i x x' hl (by omega) hi hv
/-- two loops with fuel, step by step -/
theorem iter_rel {X X' Y Y' : Type} {f : X → Option (Flow X Y)} {f' : X' → Option (Flow X' Y')} (R : X → X' → Prop) (m : X → Nat) (S : Y → Y' → Prop)
    (hstep : ∀ x x', R x x' → ∃ s s', f x = some s ∧ f' x' = some s' ∧ (match s, s' with | .next y, .next y' => R y y' ∧ m y < m x | .done y, .done y' => S y y' | _, _ => False)) :
    ∀ (n : Nat) (x : X) (x' : X'), m x < n → R x x' → ∃ y y', iter f n x = some y ∧ iter f' n x' = some y' ∧ S y y'
  | 0, x, x', hn, _ => by omega
  | n + 1, x, x', hn, h => by
    obtain ⟨s, s', hs, hs', hp⟩ := hstep x x' h
    simp only [iter, hs, hs']
    cases s with
    | next y =>
      cases s' with
      | next y' => exact iter_rel R m S hstep n y y' (by omega) hp.1
      | done y' => exact hp.elim
    | done y =>
      cases s' with
      | next y' => exact hp.elim
      | done y' => exact ⟨y, y', rfl, rfl, hp⟩

/-- the same loop, written twice -/
theorem iter_eq {X Y : Type} {f f' : X → Option (Flow X Y)} (Inv : X → Prop) (m : X → Nat) (Post : Y → Prop)
    (hstep : ∀ x, Inv x → ∃ s, f x = some s ∧ f' x = some s ∧ (match s with | .next y => Inv y ∧ m y < m x | .done y => Post y)) (n : Nat) (x : X) (hn : m x < n) (h : Inv x) : ∃ y, iter f n x = some y ∧ iter f' n x = some y ∧ Post y := by
  obtain ⟨y, y', h1, h2, rfl, h3⟩ := iter_rel (f := f) (f' := f') (R := fun x x' => x = x' ∧ Inv x) (m := m) (S := fun y y' => y = y' ∧ Post y) (by
    rintro x _ ⟨rfl, hx⟩
    obtain ⟨s, h1, h2, h3⟩ := hstep x hx
    refine ⟨s, s, h1, h2, ?_⟩
    cases s with
    | next y => exact ⟨⟨rfl, h3.1⟩, h3.2⟩
    | done y => exact ⟨rfl, h3⟩) n x x hn ⟨rfl, h⟩
  exact ⟨y, h1, h2, h3⟩
theorem forL_eq {α X Y : Type} {body body' : Int → α → X → Option (Flow X Y)} {fin : X → Y} {l : List α} {x : X} (Inv : Nat → X → Prop) (Post : Y → Prop) (h0 : Inv 0 x)
    (hstep : ∀ (n : Nat) a x, l[n]? = some a → Inv n x → ∃ s, body n a x = some s ∧ body' n a x = some s ∧ (match s with | .next x' => Inv (n + 1) x' | .done y => Post y)) (hfin : ∀ x, Inv l.length x → Post (fin x)) :
    ∃ y, forL body fin l 0 x = some y ∧ forL body' fin l 0 x = some y ∧ Post y := by
  obtain ⟨y, y', h1, h2, rfl, h3⟩ := forL_rel (body := body) (body' := body') (fin := fin) (fin' := fin) (l := l) (l' := l) (x := x) (x' := x) (R := fun n x x' => x = x' ∧ Inv n x) (S := fun y y' => y = y' ∧ Post y) rfl ⟨rfl, h0⟩ (by
    rintro n a a' x _ ha ha' ⟨rfl, hx⟩
    obtain rfl := Option.some.inj (ha.symm.trans ha')
    obtain ⟨s, h1, h2, h3⟩ := hstep n a x ha hx
    refine ⟨s, s, h1, h2, ?_⟩
    cases s with
    | next y => exact ⟨rfl, h3⟩
    | done y => exact ⟨rfl, h3⟩) (by rintro x _ ⟨rfl, hx⟩; exact ⟨rfl, hfin x hx⟩)
  exact ⟨y, h1, h2, h3⟩
theorem forI_eq {X Y : Type} {body body' : Int → X → Option (Flow X Y)} {fin : X → Y} {lo hi : Int} {x : X} (Inv : Int → X → Prop) (Post : Y → Prop) (h1 : -9223372036854775808 ≤ lo) (h2 : hi ≤ 9223372036854775807) (h0 : Inv lo x)
    (hstep : ∀ i x, lo ≤ i → i < hi → Inv i x → ∃ s, body i x = some s ∧ body' i x = some s ∧ (match s with | .next x' => Inv (i + 1) x' | .done y => Post y)) (hfin : ∀ i x, lo ≤ i → (i = lo ∨ i = hi) → hi ≤ i → Inv i x → Post (fin x)) :
    ∃ y, forI lo hi body fin x = some y ∧ forI lo hi body' fin x = some y ∧ Post y := by
  obtain ⟨y, y', h1, h2, rfl, h3⟩ := forI_rel (body := body) (body' := body') (fin := fin) (fin' := fin) (x := x) (x' := x) (R := fun n x x' => x = x' ∧ Inv n x) (S := fun y y' => y = y' ∧ Post y) h1 h2 ⟨rfl, h0⟩ (by
    rintro n x _ ha ha' ⟨rfl, hx⟩
    obtain ⟨s, h1, h2, h3⟩ := hstep n x ha ha' hx
    refine ⟨s, s, h1, h2, ?_⟩
    cases s with
    | next y => exact ⟨rfl, h3⟩
    | done y => exact ⟨rfl, h3⟩) (by rintro i x _ a b c ⟨rfl, hx⟩; exact ⟨rfl, hfin i x a b c hx⟩)
  exact ⟨y, h1, h2, h3⟩

/-! ### loops as folds -/
theorem loopI_fold {X Y : Type} {body : Int → X → Option (Flow X Y)} {fin : X → Y} {hi : Int} {g : Int → X → X} : ∀ (k : Nat) (i : Int) (x : X), (hi - i).toNat = k → (∀ j x, i ≤ j → j < hi → body j x = some (.next (g j x))) →
    loopI body fin k i x = some (fin ((List.range k).foldl (fun x (n : Nat) => g (i + (n : Int)) x) x))
  | 0, i, x, hk, hb => rfl
  | k + 1, i, x, hk, hb => by
    simp only [loopI, hb i x (by omega) (by omega)]
    rw [loopI_fold k (i + 1) (g i x) (by omega) (fun j x hj hj' => hb j x (by omega) hj'), List.range_succ_eq_map, List.foldl_cons, List.foldl_map]
    have e : (fun x (n : Nat) => g (i + 1 + (n : Int)) x) = (fun x (n : Nat) => g (i + (n.succ : Int)) x) := by
      funext x n
      congr 1
      omega
    simp only [e, Int.natCast_zero, Int.add_zero]
theorem forI_fold {X Y : Type} {body : Int → X → Option (Flow X Y)} {fin : X → Y} {n : Nat} {x : X} {g : Nat → X → X} (h : n ≤ 9223372036854775807) (hb : ∀ (j : Nat) x, j < n → body j x = some (.next (g j x))) :
    forI 0 n body fin x = some (fin ((List.range n).foldl (fun x k => g k x) x)) := by
  unfold forI
  rw [if_pos ⟨by omega, by omega⟩, loopI_fold (g := fun i x => g i.toNat x) _ 0 x rfl]
  · simp
  · intro j x h0 h1
    have := hb j.toNat x (by omega)
    rwa [Int.toNat_of_nonneg h0] at this
/-- a counted loop that looks for the first bad number -/
theorem loopI_any {Y : Type} {body : Int → Unit → Option (Flow Unit Y)} {fin : Unit → Y} {hi : Int} {p : Int → Bool} {y : Y} : ∀ (k : Nat) (i : Int), (hi - i).toNat = k → (∀ j, i ≤ j → j < hi → body j () = some (bif p j then .done y else .next ())) →
    loopI body fin k i () = some (bif (List.range k).any (fun n => p (i + (n : Int))) then y else fin ())
  | 0, i, hk, hb => rfl
  | k + 1, i, hk, hb => by
    simp only [loopI, hb i (by omega) (by omega)]
    rw [List.range_succ_eq_map, List.any_cons, List.any_map]
    cases hp : p i with
    | true => simp [hp]
    | false =>
      simp only [cond_false, Int.natCast_zero, Int.add_zero, hp, Bool.false_or]
      rw [loopI_any k (i + 1) (by omega) (fun j hj hj' => hb j (by omega) hj')]
      have e : ((fun n : Nat => p (i + (n : Int))) ∘ Nat.succ) = fun n : Nat => p (i + 1 + (n : Int)) := by
        funext n
        show p _ = p _
        congr 1
        omega
      rw [e]
theorem forI_any {Y : Type} {body : Int → Unit → Option (Flow Unit Y)} {fin : Unit → Y} {n : Nat} {p : Nat → Bool} {y : Y} (h : n ≤ 9223372036854775807) (hb : ∀ j : Nat, j < n → body j () = some (bif p j then .done y else .next ())) :
    forI 0 n body fin () = some (bif (List.range n).any p then y else fin ()) := by
  unfold forI
  rw [if_pos ⟨by omega, by omega⟩, loopI_any (p := fun i => p i.toNat) (y := y) _ 0 rfl]
  · simp
  · intro j h0 h1
    have := hb j.toNat (by omega)
    rwa [Int.toNat_of_nonneg h0] at this
/-- loops over a list and over its places -/
theorem forL_forI' {α X Y : Type} {body : Int → X → Option (Flow X Y)} {fin : X → Y} : ∀ (l : List α) (i : Int) (x : X), forL (fun i _ x => body i x) fin l i x = loopI body fin l.length i x
  | [], i, x => rfl
  | a :: l, i, x => by
    simp only [forL, List.length_cons, loopI]
    cases body i x with
    | none => rfl
    | some s => cases s with
      | next x' => exact forL_forI' l (i + 1) x'
      | done y => rfl
theorem forI_forL {α X Y : Type} {body : Int → X → Option (Flow X Y)} {fin : X → Y} {x : X} {l : List α} (h : l.length ≤ 9223372036854775807) : forI 0 (l.length : Int) body fin x = forL (fun i _ x => body i x) fin l 0 x := by
  unfold forI
  rw [if_pos ⟨by omega, by omega⟩, forL_forI']
  simp
/-- how many elements are so -/
theorem forL_count' {α Y : Type} {body : Int → α → Int → Option (Flow Int Y)} {fin : Int → Y} {p : α → Bool} : ∀ (l : List α) (i : Int) (c : Nat), (∀ i a x, a ∈ l → body i a x = some (.next (bif p a then w64 (x + 1) else x))) → c + l.length ≤ 9223372036854775807 →
    forL body fin l i (c : Int) = some (fin ((c + l.countP p : Nat) : Int))
  | [], i, c, hb, h => rfl
  | a :: l, i, c, hb, h => by
    simp only [List.length_cons] at h
    simp only [forL, hb i a c (by simp), List.countP_cons]
    cases hp : p a with
    | true =>
      have e : w64 ((c : Int) + 1) = ((c + 1 : Nat) : Int) := by rw [w64_id (by omega) (by omega)]; omega
      simp only [cond_true, e]
      rw [forL_count' l (i + 1) (c + 1) (fun i a x ha => hb i a x (by simp [ha])) (by omega)]
      simp [Nat.add_comm, Nat.add_left_comm]
    | false =>
      simp only [cond_false]
      rw [forL_count' l (i + 1) c (fun i a x ha => hb i a x (by simp [ha])) (by omega)]
      simp
theorem forL_count {α Y : Type} {body : Int → α → Int → Option (Flow Int Y)} {fin : Int → Y} {p : α → Bool} {l : List α} {i : Int} (h : l.length ≤ 9223372036854775807) (hb : ∀ i a x, a ∈ l → body i a x = some (.next (bif p a then w64 (x + 1) else x))) :
    forL body fin l i 0 = some (fin ((l.countP p : Nat) : Int)) := by
  have := forL_count' (fin := fin) l i 0 hb (by omega)
  simpa using this
def said {R Y : Type} (g : R → Y) : Option R → Flow Unit Y
  | some e => .done (g e)
  | none => .next ()
/-- a loop that asks each element, and ends at the first that has something to say -/
theorem forL_find {α R Y : Type} {body : Int → α → Unit → Option (Flow Unit Y)} {fin : Unit → Y} {f : α → Option R} {g : R → Y} : ∀ {l : List α}, (∀ i a, a ∈ l → body i a () = some (said g (f a))) → ∀ {i : Int},
    forL body fin l i () = some ((l.findSome? f).elim (fin ()) g)
  | [], _, i => rfl
  | a :: l, hb, i => by
    simp only [forL, hb i a (by simp), List.findSome?_cons]
    cases hf : f a with
    | some e => rfl
    | none => exact forL_find (fun i a ha => hb i a (List.mem_cons_of_mem _ ha))
/-- a loop that holds a list against another one -/
theorem forL_eqs' {α : Type} [DecidableEq α] {body : Int → α → Unit → Option (Flow Unit (Esc Bool Unit))} : ∀ (l q p : List α), (∀ (n : Nat) a c, (p ++ q)[n]? = some c → body n a () = some (if a = c then .next () else .done (.ret false))) → l.length = q.length →
    forL body (fun _ => .brk ()) l (p.length : Int) () = some (if l = q then .brk () else .ret false)
  | [], [], p, hb, hl => rfl
  | a :: l, c :: q, p, hb, hl => by
    have h1 := hb p.length a c (by simp)
    by_cases h : a = c
    · subst h
      rw [if_pos rfl] at h1
      simp only [forL, h1]
      have := forL_eqs' l q (p ++ [a]) (by simpa using hb) (by simpa using hl)
      simp only [List.length_append, List.length_singleton] at this
      simpa using this
    · rw [if_neg h] at h1
      simp only [forL, h1]
      rw [if_neg (by simp [h])]
theorem forL_eqs {α : Type} [DecidableEq α] {body : Int → α → Unit → Option (Flow Unit (Esc Bool Unit))} {l q : List α} (hb : ∀ (n : Nat) a c, q[n]? = some c → body n a () = some (if a = c then .next () else .done (.ret false))) (hl : l.length = q.length) :
    forL body (fun _ => .brk ()) l 0 () = some (if l = q then .brk () else .ret false) := by
  simpa using forL_eqs' l q [] (by simpa using hb) hl
theorem len_ne {α β : Type} {a : List α} {b : List β} : ((a.length : Int) != (b.length : Int)) = !decide (a.length = b.length) := by
  by_cases h : a.length = b.length
  · simp [h]
  · simp [h]; omega
@[simp] theorem ck_true : ck True = some () := rfl
theorem bne_dec {α : Type} [DecidableEq α] (a b : α) : (a != b) = decide (a ≠ b) := by by_cases h : a = b <;> simp [h]
theorem beq_dec {α : Type} [DecidableEq α] (a b : α) : (a == b) = decide (a = b) := by by_cases h : a = b <;> simp [h]
theorem bif_ite {α : Type} {p : Prop} [Decidable p] {a b : α} : (bif decide p then a else b) = if p then a else b := by by_cases h : p <;> simp [h]
theorem bif_bool {α : Type} {c : Bool} {a b : α} : (bif c then a else b) = if c = true then a else b := by cases c <;> rfl
end Go.Sl

/- More loops; words as lists of bits. -/
namespace Go.Sl
open Go

/-- the first that has something to say, with its place -/
def firstOf {α R : Type} (f : Nat → α → Option R) : Nat → List α → Option R
  | _, [] => none
  | n, a :: l => match f n a with
    | some e => some e
    | none => firstOf f (n + 1) l
theorem forL_findI' {α R Y : Type} {body : Int → α → Unit → Option (Flow Unit Y)} {fin : Unit → Y} {f : Nat → α → Option R} {g : R → Y} : ∀ (l : List α) (n : Nat), (∀ j a, l[j]? = some a → body ((n + j : Nat) : Int) a () = some (said g (f (n + j) a))) →
    forL body fin l (n : Int) () = some ((firstOf f n l).elim (fin ()) g)
  | [], n, hb => rfl
  | a :: l, n, hb => by
    have h0 := hb 0 a (by simp)
    simp only [Nat.add_zero] at h0
    simp only [forL, h0, firstOf]
    cases hf : f n a with
    | some e => rfl
    | none =>
      have := forL_findI' (fin := fin) (f := f) (g := g) l (n + 1) (fun j a ha => by
        have := hb (j + 1) a (by simpa using ha)
        have e : n + (j + 1) = n + 1 + j := by omega
        rwa [e] at this)
      simpa [said] using this
theorem forL_findI {α R Y : Type} {body : Int → α → Unit → Option (Flow Unit Y)} {fin : Unit → Y} {f : Nat → α → Option R} {g : R → Y} {l : List α} (hb : ∀ (n : Nat) a, l[n]? = some a → body (n : Int) a () = some (said g (f n a))) :
    forL body fin l 0 () = some ((firstOf f 0 l).elim (fin ()) g) := by
  simpa using forL_findI' (fin := fin) (f := f) (g := g) l 0 (by simpa using hb)
theorem firstOf_none' {α R : Type} {f : Nat → α → Option R} : ∀ (l : List α) (n : Nat), firstOf f n l = none → ∀ j a, l[j]? = some a → f (n + j) a = none
  | [], n, h, j, a, ha => by simp at ha
  | b :: l, n, h, j, a, ha => by
    simp only [firstOf] at h
    split at h
    · cases h
    · rename_i hb
      cases j with
      | zero => simp at ha; subst ha; simpa using hb
      | succ j =>
        have := firstOf_none' l (n + 1) h j a (by simpa using ha)
        have e : n + 1 + j = n + (j + 1) := by omega
        rwa [e] at this
theorem firstOf_none {α R : Type} {f : Nat → α → Option R} {l : List α} (h : firstOf f 0 l = none) {j : Nat} {a : α} (ha : l[j]? = some a) : f j a = none := by
  simpa using firstOf_none' l 0 h j a ha
theorem firstOf_some' {α R : Type} {f : Nat → α → Option R} {e : R} : ∀ (l : List α) (n : Nat), firstOf f n l = some e → ∃ j a, l[j]? = some a ∧ f (n + j) a = some e
  | [], n, h => by simp [firstOf] at h
  | b :: l, n, h => by
    simp only [firstOf] at h
    split at h
    · rename_i e' hb
      cases h
      exact ⟨0, b, by simp, by simpa using hb⟩
    · obtain ⟨j, a, ha, hf⟩ := firstOf_some' l (n + 1) h
      have e : n + 1 + j = n + (j + 1) := by omega
      rw [e] at hf
      exact ⟨j + 1, a, by simpa using ha, hf⟩
theorem firstOf_some {α R : Type} {f : Nat → α → Option R} {e : R} {l : List α} (h : firstOf f 0 l = some e) : ∃ j a, l[j]? = some a ∧ f j a = some e := by
  simpa using firstOf_some' l 0 h

theorem loopI_congr {X Y : Type} {body body' : Int → X → Option (Flow X Y)} {fin : X → Y} {hi : Int} : ∀ (k : Nat) (i : Int) (x : X), (hi - i).toNat = k → (∀ j x, i ≤ j → j < hi → body j x = body' j x) → loopI body fin k i x = loopI body' fin k i x
  | 0, i, x, hk, hb => rfl
  | k + 1, i, x, hk, hb => by
    simp only [loopI, hb i x (by omega) (by omega)]
    cases body' i x with
    | none => rfl
    | some s => cases s with
      | next y => exact loopI_congr k (i + 1) y (by omega) (fun j x hj hj' => hb j x (by omega) hj')
      | done y => rfl
theorem forI_congr {X Y : Type} {body body' : Int → X → Option (Flow X Y)} {fin : X → Y} {lo hi : Int} {x : X} (hb : ∀ j x, lo ≤ j → j < hi → body j x = body' j x) : forI lo hi body fin x = forI lo hi body' fin x := by
  unfold forI
  split
  · exact loopI_congr _ lo x rfl hb
  · rfl
/-- how many places are so -/
theorem forL_countI' {α Y : Type} {body : Int → α → Int → Option (Flow Int Y)} {fin : Int → Y} {p : Nat → Bool} : ∀ (l : List α) (i c : Nat), (∀ (j : Nat) a x, l[j]? = some a → body ((i + j : Nat) : Int) a x = some (.next (bif p (i + j) then w64 (x + 1) else x))) → c + l.length ≤ 9223372036854775807 →
    forL body fin l (i : Int) (c : Int) = some (fin ((c + (List.range' i l.length).countP p : Nat) : Int))
  | [], i, c, hb, h => rfl
  | a :: l, i, c, hb, h => by
    simp only [List.length_cons] at h
    have h0 := hb 0 a (c : Int) (by simp)
    simp only [Nat.add_zero] at h0
    simp only [forL, h0, List.length_cons, List.range'_succ, List.countP_cons]
    have hb' : ∀ (j : Nat) b x, l[j]? = some b → body ((i + 1 + j : Nat) : Int) b x = some (.next (bif p (i + 1 + j) then w64 (x + 1) else x)) := by
      intro j b x hj
      have := hb (j + 1) b x (by simpa using hj)
      have e : i + (j + 1) = i + 1 + j := by omega
      rwa [e] at this
    cases hp : p i with
    | true =>
      have e : w64 ((c : Int) + 1) = ((c + 1 : Nat) : Int) := by rw [w64_id (by omega) (by omega)]; omega
      simp only [cond_true, e]
      have := forL_countI' (fin := fin) l (i + 1) (c + 1) hb' (by omega)
      rw [Int.natCast_add i 1, Int.natCast_one] at this
      rw [this]
      congr 2
      simp only [if_true]
      omega
    | false =>
      simp only [cond_false]
      have := forL_countI' (fin := fin) l (i + 1) c hb' (by omega)
      rw [Int.natCast_add, Int.natCast_one] at this
      rw [this]
      simp
theorem forL_countI {α Y : Type} {body : Int → α → Int → Option (Flow Int Y)} {fin : Int → Y} {p : Nat → Bool} {l : List α} (h : l.length ≤ 9223372036854775807) (hb : ∀ (j : Nat) a x, l[j]? = some a → body (j : Int) a x = some (.next (bif p j then w64 (x + 1) else x))) :
    forL body fin l 0 0 = some (fin (((List.range l.length).countP p : Nat) : Int)) := by
  have := forL_countI' (fin := fin) (p := p) l 0 0 (by simpa using hb) (by omega)
  simpa [List.range_eq_range'] using this
theorem forI_count {Y : Type} {body : Int → Int → Option (Flow Int Y)} {fin : Int → Y} {p : Nat → Bool} {n : Nat} (h : n ≤ 9223372036854775807) (hb : ∀ (j : Nat) x, j < n → body (j : Int) x = some (.next (bif p j then w64 (x + 1) else x))) :
    forI 0 n body fin 0 = some (fin (((List.range n).countP p : Nat) : Int)) := by
  have e : forI 0 (n : Int) body fin 0 = forL (fun i _ x => body i x) fin (List.range n) 0 0 := by
    have := forI_forL (body := body) (fin := fin) (x := 0) (l := List.range n) (by simpa using h)
    simpa using this
  rw [e, forL_countI (p := p) (by simpa using h)]
  · simp
  · intro j a x hj
    have := (List.getElem?_eq_some_iff.1 hj).1
    simp only [List.length_range] at this
    exact hb j x this
/-- a loop with fuel that counts -/
theorem iter_count {X Y : Type} {f : X × Int → Option (Flow (X × Int) Y)} {g : Nat → X → X} {fin : X → Y} {n : Nat} (hs : ∀ (j : Nat) x, j < n → f (x, (j : Int)) = some (.next (g j x, ((j + 1 : Nat) : Int)))) (hf : ∀ x, f (x, (n : Int)) = some (.done (fin x))) :
    ∀ (k i fuel : Nat) (x : X), i + k = n → k < fuel → iter f fuel (x, (i : Int)) = some (fin ((List.range' i k).foldl (fun x j => g j x) x))
  | 0, i, fuel, x, hi, hk => by
    obtain ⟨m, rfl⟩ : ∃ m, fuel = m + 1 := ⟨fuel - 1, by omega⟩
    have : i = n := by omega
    subst this
    simp [iter, hf]
  | k + 1, i, fuel, x, hi, hk => by
    obtain ⟨m, rfl⟩ : ∃ m, fuel = m + 1 := ⟨fuel - 1, by omega⟩
    simp only [iter, hs i x (by omega), List.range'_succ, List.foldl_cons]
    exact iter_count hs hf k (i + 1) m (g i x) (by omega) (by omega)
theorem iter_count0 {X Y : Type} {f : X × Int → Option (Flow (X × Int) Y)} {g : Nat → X → X} {fin : X → Y} {n fuel : Nat} {x : X} (hs : ∀ (j : Nat) x, j < n → f (x, (j : Int)) = some (.next (g j x, ((j + 1 : Nat) : Int)))) (hf : ∀ x, f (x, (n : Int)) = some (.done (fin x))) (h : n < fuel) :
    iter f fuel (x, 0) = some (fin ((List.range n).foldl (fun x j => g j x) x)) := by
  have := iter_count hs hf n 0 fuel x (by omega) h
  rw [List.range_eq_range']
  simpa using this
/-- how many bits are set -/
def pc (w : Nat) : Nat := (List.range 63).countP w.testBit
theorem eqL_iff {α : Type} {f : α → α → Bool} (hf : ∀ a b, f a b = true ↔ a = b) : ∀ l m : List α, eqL f l m = true ↔ l = m
  | [], [] => by simp [eqL]
  | [], b :: m => by simp [eqL]
  | a :: l, [] => by simp [eqL]
  | a :: l, b :: m => by simp [eqL, hf, eqL_iff hf l m]
def Ty.cmp : Ty → Bool
  | .int _ => true
  | .bool => true
  | .str => false
  | .slice _ => false
  | .pair t u => t.cmp && u.cmp
  | .wrap t => t.cmp
  | .arr _ t => t.cmp
theorem deqT_iff : ∀ (t : Ty), t.cmp = true → ∀ a b : t.den, deqT t a b = true ↔ a = b
  | .int _, _, a, b => by show ((a : Int) == b) = true ↔ _; simp
  | .bool, _, a, b => by show ((a : Bool) == b) = true ↔ _; simp
  | .str, h, _, _ => by simp [Ty.cmp] at h
  | .slice _, h, _, _ => by simp [Ty.cmp] at h
  | .pair t u, h, p, q => by
    simp only [Ty.cmp, Bool.and_eq_true] at h
    show (deqT t p.1 q.1 && deqT u p.2 q.2) = true ↔ _
    rw [Bool.and_eq_true, deqT_iff t h.1, deqT_iff u h.2]
    exact ⟨fun e => Prod.ext e.1 e.2, fun e => by rw [e]; exact ⟨rfl, rfl⟩⟩
  | .wrap t, h, a, b => deqT_iff t h a b
  | .arr _ t, h, a, b => eqL_iff (deqT_iff t h) a b
theorem deqT_self (t : Ty) (h : t.cmp = true) (a : t.den) : deqT t a a = true := (deqT_iff t h a a).2 rfl
theorem deqT_ne (t : Ty) (h : t.cmp = true) {a b : t.den} (hn : a ≠ b) : deqT t a b = false := by
  cases hd : deqT t a b with
  | false => rfl
  | true => exact (hn ((deqT_iff t h a b).1 hd)).elim
theorem bif_none {α : Type} {c : Bool} {x : α} {r : Option α} (h : (bif c then some x else r) = none) : c = false ∧ r = none := by cases c <;> simp_all
theorem snoc_ind {α : Type} {P : List α → Prop} (h0 : P []) (h1 : ∀ l a, P l → P (l ++ [a])) (l : List α) : P l := by
  have : ∀ l : List α, P l.reverse := by
    intro l
    induction l with
    | nil => exact h0
    | cons a l ih => rw [List.reverse_cons]; exact h1 _ _ ih
  have := this l.reverse
  rwa [List.reverse_reverse] at this
/-- a word of bits -/
def wd : List Bool → Nat
  | [] => 0
  | b :: l => b.toNat + 2 * wd l
theorem wd_lt : ∀ l : List Bool, wd l < 2 ^ l.length
  | [] => by simp [wd]
  | b :: l => by
    have := wd_lt l
    have hb : b.toNat ≤ 1 := Bool.toNat_le b
    simp only [wd, List.length_cons, Nat.pow_succ]
    omega
theorem wd_bit : ∀ (l : List Bool) (i : Nat), (wd l).testBit i = l.getD i false
  | [], i => by simp [wd]
  | b :: l, 0 => by
    simp only [wd, Nat.testBit_zero]
    cases b <;> simp <;> omega
  | b :: l, i + 1 => by
    have h : wd (b :: l) / 2 = wd l := by
      have hb : b.toNat ≤ 1 := Bool.toNat_le b
      simp only [wd]; omega
    rw [Nat.testBit_succ, h, wd_bit l i]
    simp
/-- the bits of a word -/
def bitsOf (n w : Nat) : List Bool := (List.range n).map w.testBit
@[simp] theorem bitsOf_len (n w : Nat) : (bitsOf n w).length = n := by simp [bitsOf]
theorem bitsOf_get {n w i : Nat} (h : i < n) : (bitsOf n w)[i]? = some (w.testBit i) := by simp [bitsOf, h]
theorem bitsOf_getD {n w i : Nat} (h : i < n) : (bitsOf n w).getD i false = w.testBit i := by rw [List.getD_eq_getElem?_getD, bitsOf_get h]; rfl
theorem idx_some {α : Type} {xs : List α} {i : Int} {x : α} (h : idx xs i = some x) : 0 ≤ i ∧ i < (xs.length : Int) ∧ xs[i.toNat]? = some x := by
  unfold idx at h
  split at h
  · rename_i h0
    have := (List.getElem?_eq_some_iff.1 h).1
    exact ⟨h0, by omega, h⟩
  · cases h
theorem idx_of {α : Type} {xs : List α} {i : Int} {x : α} (h0 : 0 ≤ i) (h : xs[i.toNat]? = some x) : idx xs i = some x := by unfold idx; rw [if_pos h0]; exact h
theorem idx_last {α : Type} {xs : List α} {n : Nat} (h : n + 1 ≤ 9223372036854775807) : idx xs (w64 (((n + 1 : Nat) : Int) - 1)) = xs[n]? := by
  have : w64 (((n + 1 : Nat) : Int) - 1) = (n : Int) := by rw [w64_id (by omega) (by omega)]; omega
  rw [this, idx_nat]
end Go.Sl
