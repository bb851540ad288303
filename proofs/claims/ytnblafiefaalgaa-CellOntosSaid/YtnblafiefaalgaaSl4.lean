/- Regions that draw their order, of the certifying translation. -/
import Derived.Test.YtnblafiefaalgaaSl3
set_option linter.all false
/- Regions that draw their order, with operations that may come late: moves and parts of tuples, which no other operation minds. -/
namespace Go.Sl
open Go

/-- an operation that looks at slots alone -/
def latePure (o : Oper) : Bool := o.guard.isNone && (match o.op with | .move _ | .assign _ | .extract _ _ => true | _ => false)
/-- an operation that may be late, or that a timely one waits for -/
def heldL (ops : Array Oper) (m : Nat) (late : List Nat) (j : Nat) : Bool :=
  late.contains j || (List.range m).any fun k => !late.contains k && match ops[k]? with | some o => (edgesOf o).contains j | none => false
def drawOkL (ops : Array Oper) (m : Nat) (late : List Nat) : Bool :=
  decide (m ≤ ops.size) &&
  (ops.toList.zipIdx.all fun p => (edgesOf p.1).all (fun j => decide (j < p.2)) && (match p.1.guard with | some (j, _) => (edgesOf p.1).contains j | none => true) &&
    (if p.2 < m then p.1.dst.isSome else if p.2 = m then (List.range m).all fun j => (edgesOf p.1).contains j || heldL ops m late j else (edgesOf p.1).contains (p.2 - 1))) &&
  decide (((ops.toList.take m).filterMap (·.dst)).Nodup) && Region.noSelect ops &&
  (late.all fun j => match ops[j]? with
    | some oj => latePure oj && (ops.toList.zipIdx.all fun p => p.2 == j || !(late.contains p.2 || decide (m ≤ p.2)) || (edgesOf p.1).contains j || oj.apart ops p.1)
    | none => false)

section
variable {C : Ctx} {fr : Fr} {L : LL}
theorem edges_ltL {ops : Array Oper} {m : Nat} {late : List Nat} (hok : drawOkL ops m late = true) {i : Nat} {o : Oper} (ho : ops[i]? = some o) : (∀ j ∈ edgesOf o, j < i) ∧ (∀ j b, o.guard = some (j, b) → j ∈ edgesOf o) ∧ (i < m → o.dst.isSome = true) ∧ (m = i → ∀ j, j < m → j ∈ edgesOf o ∨ j ∈ late ∨ ∃ k ok, k < m ∧ k ∉ late ∧ ops[k]? = some ok ∧ j ∈ edgesOf ok) ∧ (m < i → i - 1 ∈ edgesOf o) := by
  unfold drawOkL at hok
  simp only [Bool.and_eq_true] at hok
  obtain ⟨⟨⟨⟨h0, hall⟩, hn⟩, hns⟩, hl⟩ := hok
  have hmem : (o, i) ∈ ops.toList.zipIdx := by
    rw [List.mem_iff_getElem?]
    exact ⟨i, by simp [ho]⟩
  have h := List.all_eq_true.1 hall _ hmem
  simp only [Bool.and_eq_true] at h
  obtain ⟨⟨h1, h2⟩, h3⟩ := h
  refine ⟨fun j hj => by simpa using List.all_eq_true.1 h1 j hj, fun j b hg => ?_, fun hi => ?_, fun hi j hj => ?_, fun hi => ?_⟩
  · rw [hg] at h2; simpa using h2
  · rw [if_pos hi] at h3; exact h3
  · rw [if_neg (by omega), if_pos hi.symm] at h3
    have := List.all_eq_true.1 h3 j (by simpa using hj)
    simp only [Bool.or_eq_true, List.contains_eq_mem, decide_eq_true_eq] at this
    rcases this with h | h5
    · exact .inl h
    · refine .inr ?_
      unfold heldL at h5
      simp only [Bool.or_eq_true, List.contains_eq_mem, decide_eq_true_eq] at h5
      rcases h5 with h5 | h5
      · exact .inl h5
      · obtain ⟨k, hk1, hk2⟩ := List.any_eq_true.1 h5
        simp only [Bool.and_eq_true, Bool.not_eq_true', decide_eq_false_iff_not] at hk2
        obtain ⟨hk2, hk3⟩ := hk2
        split at hk3
        · rename_i ok hok
          exact .inr ⟨k, ok, by simpa using hk1, hk2, hok, by simpa using hk3⟩
        · cases hk3
  · rw [if_neg (by omega), if_neg (by omega)] at h3
    simpa using h3

/-- the tail: one operation behind the other -/
theorem draw_tailL {ops : Array Oper} {m : Nat} {orcs : List (Nat × Orc)} {Q : Exit → Act → World → Prop} (hok : ∀ i o, ops[i]? = some o → (∀ j ∈ edgesOf o, j < i) ∧ (m < i → i - 1 ∈ edgesOf o)) (hd : dstOk C.n ops = true) :
    ∀ (r : Nat) (k : Nat) (fr : Fr) (L : LL) (fr' : Fr) (L' : LL) (obs : List Prop) (listed : Array Bool) (a : Act) (w : World), ops.size = k + r → m ≤ k → listed.size = ops.size → (∀ i, i < ops.size → listed.getD i false = decide (i < k)) →
      Rel C fr L a w → run C.P ops orcs k (ops.toList.drop k) fr L = some (fr', L', obs) → AllP obs → (∀ a' w', Rel C fr' L' a' w' → Q .normal a' w') → ∀ fuel, r ≤ fuel → wpAny C.P .any ops Q fuel listed a w
  | 0, k, fr, L, fr', L', obs, listed, a, w, hk, hm, hls, hl, hr, hrun, ho, hq, fuel, _ => by
    rw [List.drop_eq_nil_of_le (by simp; omega)] at hrun
    simp only [run, Option.some.injEq, Prod.mk.injEq] at hrun
    obtain ⟨rfl, rfl, _⟩ := hrun
    have hre : Region.ready .any ops listed = [] := by
      apply List.eq_nil_iff_forall_not_mem.2
      intro i hi
      obtain ⟨h1, h2, _⟩ := mem_ready'.1 hi
      have := hl i h1
      rw [Array.getD_eq_getD_getElem?, Array.getElem?_eq_getElem (by omega)] at this h2
      simp only [Option.getD_some] at this h2
      rw [h2] at this
      have := of_decide_eq_false this.symm
      omega
    cases fuel with
    | zero => exact ⟨hre, hq a w hr⟩
    | succ fuel => exact ⟨fun _ => hq a w hr, fun i hi => by rw [hre] at hi; cases hi⟩
  | r + 1, k, fr, L, fr', L', obs, listed, a, w, hk, hm, hls, hl, hr, hrun, ho, hq, fuel + 1, hf => by
    have hklt : k < ops.size := by omega
    have hgk : ops[k]? = some ops[k] := Array.getElem?_eq_getElem hklt
    have hdrop : ops.toList.drop k = ops[k] :: ops.toList.drop (k + 1) := by
      rw [← List.getElem_cons_drop (by simpa using hklt)]; simp
    rw [hdrop, run] at hrun
    split at hrun
    · rename_i fr1 L1 p hstep
      split at hrun
      · rename_i fr2 L2 q hrun2
        simp only [Option.some.injEq, Prod.mk.injEq] at hrun
        obtain ⟨rfl, rfl, rfl⟩ := hrun
        obtain ⟨hp, hq'⟩ := ho.append
        obtain ⟨h, ρ, hrel⟩ := hr
        have hdst : ∀ d, ops[k].dst = some d → d < C.n := by
          intro d hdd
          have := List.all_eq_true.1 hd ops[k] (by simp)
          rw [hdd] at this
          simpa using this
        have hdoes := step_sound hrel hdst hstep hp
        have hkready : k ∈ Region.ready .any ops listed := by
          refine mem_ready'.2 ⟨hklt, ?_, _, hgk, fun j hj => ?_⟩
          · have := hl k hklt
            rw [Array.getD_eq_getD_getElem?, Array.getElem?_eq_getElem (by omega)] at this ⊢
            simpa using this
          · have hjk := (hok _ _ hgk).1 j hj
            rw [hl j (by omega)]; simpa using hjk
        refine ⟨fun he => by (rw [he] at hkready; exact absurd hkready (by simp)), fun i hi => ?_⟩
        obtain ⟨h1, h2, o, ho1, ho2⟩ := mem_ready'.1 hi
        have hik : i = k := by
          have hge : k ≤ i := by
            have := hl i h1
            rw [Array.getD_eq_getD_getElem?, Array.getElem?_eq_getElem (by omega)] at this h2
            simp only [Option.getD_some] at this h2
            rw [h2] at this
            have := of_decide_eq_false this.symm
            omega
          rcases Nat.eq_or_lt_of_le hge with h3 | h3
          · exact h3.symm
          · have := ho2 (i - 1) ((hok _ _ ho1).2 (by omega))
            rw [hl (i - 1) (by omega)] at this
            have := of_decide_eq_true this
            omega
        subst hik
        unfold wpOp
        rw [hgk]
        have hK := hdoes Q (wpAny C.P .any ops Q fuel (listed.setIfInBounds i true)) (fun a' w' hrel' =>
          draw_tailL hok hd r (i + 1) fr1 L1 _ _ q (listed.setIfInBounds i true) a' w' (by omega) (by omega) (by simp [hls]) (fun j hj => by
            rw [Array.getD_eq_getD_getElem?, Array.getElem?_setIfInBounds]
            by_cases hij : i = j
            · subst hij; simp [hls, hj]
            · rw [if_neg hij]
              have := hl j hj
              rw [Array.getD_eq_getD_getElem?] at this
              rw [this]
              congr 1
              exact propext ⟨fun h => by omega, fun h => by omega⟩) hrel' hrun2 hq' hq fuel (by omega))
        simp only
        by_cases hw : Region.wanted ops[i] (yielded ops a.tmps) = true
        · rw [if_pos hw] at hK ⊢; exact .inl hK
        · rw [if_neg hw] at hK ⊢; exact hK
      · simp at hrun
    · simp at hrun


/-- what 'late' operations give -/
theorem late_yields {P : Program} {ops : Array Oper} {o : Oper} {a : Act} {w : World} {K : Act → World → Prop} {Q : Exit → Act → World → Prop} {i : Nat} (hi : ops[i]? = some o) (hl : latePure o = true) (hw : wpOp P ops Q i K a w) (hnQ : ∀ c a w, ¬ Q (.panic c) a w) (hno : ¬ LetsOut Q) :
    ∃ v, Yields P ops o v a ∧ K (a.put o.dst v) w := by
  unfold latePure at hl
  simp only [Bool.and_eq_true, Option.isNone_iff_eq_none] at hl
  obtain ⟨hg, hop⟩ := hl
  have hwant : Region.wanted o (yielded ops a.tmps) = true := by simp [Region.wanted, hg]
  unfold wpOp at hw
  rw [hi] at hw
  simp only [hwant, if_true] at hw
  have hw2 : o.wp P a w K Q := by
    rcases hw with h | ⟨_, h⟩
    · exact h
    · exact (hno h).elim
  have val : ∀ v, (∀ w, (execOp a.eval o).run P w = .ok (.value v) w) → ∃ v, Yields P ops o v a ∧ K (a.put o.dst v) w := by
    intro v hv
    refine ⟨v, .inl ⟨hwant, hv⟩, ?_⟩
    unfold Oper.wp at hw2
    rw [hv w, Oper.upon_value] at hw2
    exact hw2
  split at hop
  · rename_i x hx
    exact val (a.eval x) (fun w => by simp only [execOp, hx, Sem.run_pure])
  · rename_i x hx
    exact val (a.eval x) (fun w => by simp only [execOp, hx, Sem.run_pure])
  · rename_i x k hx
    have hx1 : ∀ w, (execOp a.eval o).run P w = ((Instr.extract (a.eval x) k).run P w).andThen fun v w => .ok (.value v) w := fun w => by
      simp only [execOp, hx, Sem.run_bind]; rfl
    have hw3 := hw2
    unfold Oper.wp at hw3
    rw [hx1 w] at hw3
    unfold Instr.extract at hx1 hw3
    split at hw3
    · rename_i vs hvs
      split at hw3
      · rename_i v hv
        refine val v (fun w => ?_)
        rw [hx1 w]
        simp only [hvs, hv, Sem.run_pure]; rfl
      · exact absurd hw3 (by simp [stuck, Oper.upon])
    · exact absurd hw3 (by simp [stuck, Oper.upon])
  · cases hop

theorem drawOkL_parts {ops : Array Oper} {m : Nat} {late : List Nat} (hok : drawOkL ops m late = true) : m ≤ ops.size ∧ ((ops.toList.take m).filterMap (·.dst)).Nodup ∧ Region.noSelect ops = true ∧
    (∀ i oi, i ∈ late → ops[i]? = some oi → latePure oi = true ∧ ∀ j oj, ops[j]? = some oj → j ≠ i → (j ∈ late ∨ m ≤ j) → i ∉ edgesOf oj → oi.apart ops oj = true) := by
  unfold drawOkL at hok
  simp only [Bool.and_eq_true, decide_eq_true_eq] at hok
  obtain ⟨⟨⟨⟨h0, hall⟩, hn⟩, hns⟩, hl⟩ := hok
  refine ⟨h0, hn, hns, fun i oi hi hoi => ?_⟩
  have := List.all_eq_true.1 hl i hi
  rw [hoi] at this
  simp only [Bool.and_eq_true] at this
  refine ⟨this.1, fun j oj hj hji hjm hno => ?_⟩
  have h2 := List.all_eq_true.1 this.2 (oj, j) (by
    rw [List.mem_iff_getElem?]
    exact ⟨j, by simp [hj]⟩)
  simp only [Bool.or_eq_true, beq_iff_eq, Bool.not_eq_true', Bool.or_eq_false_iff, List.contains_eq_mem, decide_eq_true_eq, decide_eq_false_iff_not] at h2
  rcases h2 with ((h2 | h2) | h2) | h2
  · exact (hji h2).elim
  · rcases hjm with h3 | h3
    · exact (h2.1 h3).elim
    · exact (h2.2 h3).elim
  · exact (hno h2).elim
  · exact h2

/-- what is left of a way out where nothing panics and no room is lacking -/
abbrev Qn (C : Ctx) (Q : Post) : Exit → Act → World → Prop := lift C (normQ Q)

theorem W_drawL {B : Code} {p : List Nat} {Q : Post} {fr' : Fr} {L' : LL} (m : Nat) (late : List Nat) (orcs : List (Nat × Orc)) (kF kL : List Nat) {out : List (Nat × AV)} {obs2 : List Prop} (hdr : isDraw (nav B p) = true)
    (hm : C.P.follows .mixedOrders = true) (hok : (drawOkL (opsOf (nav B p)) m late && dstOk C.n (opsOf (nav B p)) && once fr) = true) (houtlen : out.length = m)
    (hent0 : ∀ i o, i < m → (opsOf (nav B p))[i]? = some o → ∃ d av, o.dst = some d ∧ out[i]? = some (d, av) ∧ Drawn C (opsOf (nav B p)) i d av (pick (out.take i) (edgesOf o) ++ baseFr (opsOf (nav B p)) m fr) L ∧
      (∀ g b x, av = .mb g b x → ∃ j, o.guard = some (j, b) ∧ guardSlot (opsOf (nav B p)) j = some g))
    (htail : (match run C.P (opsOf (nav B p)) orcs m ((opsOf (nav B p)).toList.drop m) (out ++ baseFr (opsOf (nav B p)) m fr) L with | some (f, l, ob) => (restr kF kL f l).map fun r => (r.1, r.2, ob) | none => none) = some (fr', L', obs2)) (ho2 : AllP obs2)
    (hn : Q .normal fr' L') : W C (nav B p) Q fr L := by
  simp only [Bool.and_eq_true] at hok
  obtain ⟨⟨hok, hdok⟩, honce⟩ := hok
  generalize hops : opsOf (nav B p) = ops at *
  intro a w hr
  cases hc : nav B p <;> simp only [hc, isDraw, Bool.false_eq_true] at hdr
  rename_i id ops' d
  rw [hc] at hops
  simp only [opsOf] at hops
  simp only [Bool.and_eq_true] at hdr
  obtain ⟨hdr, hpl⟩ := hdr
  subst hops hdr
  split at htail
  · rename_i f l ob hrun
    obtain ⟨⟨f', l'⟩, hre, hee⟩ := Option.map_eq_some_iff.1 htail
    simp only [Prod.mk.injEq] at hee
    obtain ⟨rfl, rfl, rfl⟩ := hee
    obtain ⟨hmle, hnodup, hnosel, hlate⟩ := drawOkL_parts hok
    have htailok : ∀ i o, ops'[i]? = some o → (∀ j ∈ edgesOf o, j < i) ∧ (m < i → i - 1 ∈ edgesOf o) := fun i o ho => by
      obtain ⟨q1, _, _, _, q4⟩ := edges_ltL hok ho
      exact ⟨q1, q4⟩
    have hent : ∀ i o, i < m → ops'[i]? = some o → ∃ d av, o.dst = some d ∧ out[i]? = some (d, av) ∧ Drawn C ops' i d av (pick (out.take i) (edgesOf o) ++ baseFr ops' m fr) L ∧
      (∀ g b x, av = .mb g b x → ∃ j, o.guard = some (j, b) ∧ guardSlot ops' j = some g) := hent0
    -- two quiet operations write two slots
    have hdist : ∀ i j d av av', i < m → j < m → out[i]? = some (d, av) → out[j]? = some (d, av') → i = j := by
      intro i j d av av' hi hj h1 h2
      have key : ∀ k, k < m → ∃ o, ops'[k]? = some o ∧ ∃ d av, o.dst = some d ∧ out[k]? = some (d, av) := by
        intro k hk
        refine ⟨ops'[k], Array.getElem?_eq_getElem (by omega), ?_⟩
        obtain ⟨d, av, h1, h2, _⟩ := hent k _ hk (Array.getElem?_eq_getElem (by omega))
        exact ⟨d, av, h1, h2⟩
      have hds : (ops'.toList.take m).filterMap (·.dst) = out.map (·.1) := by
        apply List.ext_getElem?
        intro k
        have hall : ∀ o ∈ ops'.toList.take m, o.dst.isSome = true := by
          intro o ho
          obtain ⟨k, hk, rfl⟩ := List.getElem_of_mem ho
          have hkm : k < m := by simp at hk; omega
          obtain ⟨o', ho', d, av, hd, _⟩ := key k hkm
          have : ops'[k]? = some ops'[k] := Array.getElem?_eq_getElem (by omega)
          rw [this] at ho'
          obtain rfl := Option.some.inj ho'
          simp [hd]
        have hfm : ∀ (l : List Oper), (∀ o ∈ l, o.dst.isSome = true) → l.filterMap (·.dst) = l.map fun o => o.dst.getD 0 := by
          intro l
          induction l with
          | nil => intro _; rfl
          | cons o l ih =>
            intro hl
            have := hl o (by simp)
            cases hod : o.dst with
            | none => rw [hod] at this; simp at this
            | some d => simp [hod, ih (fun x hx => hl x (by simp [hx]))]
        rw [hfm _ hall]
        by_cases hk : k < m
        · obtain ⟨o', ho', d, av, hd, hout⟩ := key k hk
          simp [List.getElem?_take_of_lt hk, ho', hd, hout]
        · rw [List.getElem?_eq_none (by simp; omega), List.getElem?_eq_none (by simp; omega)]
      rw [hds] at hnodup
      have hi' : i < (out.map (·.1)).length := by simp; omega
      have hj' : j < (out.map (·.1)).length := by simp; omega
      have e1 : (out.map (·.1))[i] = d := by
        have : (out.map (·.1))[i]? = some d := by simp [h1]
        rw [List.getElem?_eq_getElem hi'] at this
        exact Option.some.inj this
      have e2 : (out.map (·.1))[j] = d := by
        have : (out.map (·.1))[j]? = some d := by simp [h2]
        rw [List.getElem?_eq_getElem hj'] at this
        exact Option.some.inj this
      exact (List.getElem_inj hnodup).1 (e1.trans e2.symm)
    have hdstin : ∀ i d av, i < m → out[i]? = some (d, av) → d ∈ (ops'.toList.take m).filterMap (·.dst) := by
      intro i d av hi h1
      obtain ⟨d', av', h2, h3, _⟩ := hent i ops'[i] hi (Array.getElem?_eq_getElem (by omega))
      rw [h1] at h3
      simp only [Option.some.injEq, Prod.mk.injEq] at h3
      obtain ⟨rfl, rfl⟩ := h3
      refine List.mem_filterMap.2 ⟨ops'[i], ?_, h2⟩
      rw [List.mem_iff_getElem?]
      exact ⟨i, by rw [List.getElem?_take_of_lt hi]; simp⟩
    -- the quiet phase
    have quiet : ∀ (fuel : Nat) (listed : Array Bool) (a : Act) (w : World), listed.size = ops'.size → (∀ i, m ≤ i → i < ops'.size → listed.getD i false = false) →
        (∀ i o, i < m → ops'[i]? = some o → listed.getD i false = true → ∀ j ∈ edgesOf o, listed.getD j false = true) →
        (∃ h ρ, Half C m (baseFr ops' m fr) L out listed h ρ a w) → ops'.size ≤ fuel + ((List.range ops'.size).filter fun i => listed.getD i false).length → wpAny C.P .any ops' (Qn C Q) fuel listed a w := by
      intro fuel
      induction fuel with
      | zero =>
        intro listed a w hls htl hdc ⟨h, ρ, hhalf⟩ hcount
        -- all is listed
        have hall : ∀ i, i < ops'.size → listed.getD i false = true := by
          intro i hi
          have hlen : ((List.range ops'.size).filter fun i => listed.getD i false).length = (List.range ops'.size).length := by
            have := List.length_filter_le (fun i => listed.getD i false) (List.range ops'.size)
            simp at this hcount ⊢; omega
          have := List.length_filter_eq_length_iff.1 hlen i (by simpa using hi)
          simpa using this
        have hms : m = ops'.size := by
          rcases Nat.lt_or_ge m ops'.size with hlt | hge
          · have := htl m (Nat.le_refl _) hlt; rw [hall m hlt] at this; cases this
          · omega
        have hrelF := hhalf.frame out (fun x hx => by
          obtain ⟨j, hj, rfl⟩ := List.getElem_of_mem hx
          exact ⟨j, by omega, hall j (by omega), List.getElem?_eq_getElem hj⟩)
        exact draw_tailL htailok hdok 0 m _ L f l ob listed a w (by omega) (Nat.le_refl _) hls (fun i hi => by rw [hall i hi]; symm; exact decide_eq_true (by omega)) ⟨h, ρ, hrelF⟩ hrun ho2
          (fun a' w' hr' => ⟨f', l', hr'.keep (restr_spec hre).1 (restr_spec hre).2, rfl, hn⟩) 0 (Nat.le_refl _)
      | succ fuel ih =>
        intro listed a w hls htl hdc ⟨h, ρ, hhalf⟩ hcount
        by_cases hdone : ∀ i, i < m → listed.getD i false = true
        · -- over to the tail
          have hrelF := hhalf.frame out (fun x hx => by
            obtain ⟨j, hj, rfl⟩ := List.getElem_of_mem hx
            exact ⟨j, by omega, hdone j (by omega), List.getElem?_eq_getElem hj⟩)
          have hlk : ∀ i, i < ops'.size → listed.getD i false = decide (i < m) := by
            intro i hi
            by_cases him : i < m
            · rw [hdone i him]; simp [him]
            · rw [htl i (by omega) hi]; simp [him]
          have hcnt : ((List.range ops'.size).filter fun i => listed.getD i false).length ≤ m := by
            have h1 : (List.range ops'.size).filter (fun i => listed.getD i false) = (List.range ops'.size).filter (fun i => decide (i < m)) := by
              apply List.filter_congr
              intro i hi
              exact hlk i (by simpa using hi)
            rw [h1]
            have h2 : (List.range ops'.size).filter (fun i => decide (i < m)) = List.range m := by
              have : ops'.size = m + (ops'.size - m) := by omega
              rw [this, List.range_add, List.filter_append]
              have e1 : (List.range m).filter (fun i => decide (i < m)) = List.range m := List.filter_eq_self.2 (by simp)
              have e2 : ((List.range (ops'.size - m)).map (m + ·)).filter (fun i => decide (i < m)) = [] := List.filter_eq_nil_iff.2 (by simp)
              rw [e1, e2]; simp
            rw [h2]; simp
          exact draw_tailL htailok hdok (ops'.size - m) m _ L f l ob listed a w (by omega) (Nat.le_refl _) hls hlk ⟨h, ρ, hrelF⟩ hrun ho2
            (fun a' w' hr' => ⟨f', l', hr'.keep (restr_spec hre).1 (restr_spec hre).2, rfl, hn⟩) (fuel + 1) (by omega)
        · -- some quiet operation is still to come
          obtain ⟨i0, hi0, hi0l⟩ : ∃ i, i < m ∧ listed.getD i false = false := by
            simp only [Classical.not_forall, Bool.not_eq_true] at hdone
            obtain ⟨i, hi, hil⟩ := hdone; exact ⟨i, hi, hil⟩
          have gd : ∀ i b, i < ops'.size → listed.getD i b = listed.getD i false := by
            intro i b hi
            rw [Array.getD_eq_getD_getElem?, Array.getD_eq_getD_getElem?, Array.getElem?_eq_getElem (by omega)]; rfl
          have hnonempty : Region.ready .any ops' listed ≠ [] := by
            -- the least one that is not listed
            have hex : ∃ i, i < ops'.size ∧ listed.getD i false = false ∧ ∀ j, j < i → listed.getD j false = true := by
              obtain ⟨k, ⟨hk1, hk2⟩, hk3⟩ := least_of (p := fun i => i < ops'.size ∧ listed.getD i false = false) i0 ⟨by omega, hi0l⟩
              refine ⟨k, hk1, hk2, fun j hj => ?_⟩
              have := hk3 j hj
              cases hq : listed.getD j false with
              | true => rfl
              | false => exact (this ⟨by omega, hq⟩).elim
            obtain ⟨k, hk1, hk2, hk3⟩ := hex
            intro hempty
            have : k ∈ Region.ready .any ops' listed := mem_ready'.2 ⟨hk1, by rw [gd k _ hk1]; exact hk2, ops'[k], Array.getElem?_eq_getElem hk1, fun j hj => hk3 j ((edges_ltL hok (Array.getElem?_eq_getElem hk1)).1 j hj)⟩
            rw [hempty] at this; cases this
          have one : ∀ i, i ∈ Region.ready .any ops' listed → i < m → wpOp C.P ops' (Qn C Q) i (wpAny C.P .any ops' (Qn C Q) fuel (listed.setIfInBounds i true)) a w := by
           intro i hi him
           obtain ⟨h1, h2, o, ho1, ho2'⟩ := mem_ready'.1 hi
           rw [gd i _ h1] at h2
           obtain ⟨d, av, hd1, hout, hdrawn, _⟩ := hent i o him ho1
           have hdn : d < C.n := by
             have := List.all_eq_true.1 hdok o (by simpa using Array.mem_of_getElem? ho1)
             rw [hd1] at this; simpa using this
           -- the frame of those that it waits for
           have hrelI := hhalf.frame (pick (out.take i) (edgesOf o)) (fun x hx => by
             obtain ⟨j, hj, hxj⟩ := mem_pick _ _ _ hx
             have hjlt := (edges_ltL hok ho1).1 j hj
             rw [List.getElem?_take_of_lt hjlt] at hxj
             exact ⟨j, by omega, ho2' j hj, hxj⟩)
           -- what becomes of it
           have next : ∀ (h' : Heap) (v : Value) (w' : World), Ext h h' → (∀ frx, RelH C h ρ frx L a w → RelH C h' ρ frx L a w') → VRel h' ρ (a.tmps.setIfInBounds d v) av v → wpAny C.P .any ops' (Qn C Q) fuel (listed.setIfInBounds i true) (a.put (some d) v) w' := by
             intro h' v w' hext hlift hv
             refine ih (listed.setIfInBounds i true) _ w' (by simp [hls]) ?_ ?_ ?_ ?_
             · intro k hk hk2
               rw [Array.getD_eq_getD_getElem?, Array.getElem?_setIfInBounds, if_neg (by omega), ← Array.getD_eq_getD_getElem?]
               exact htl k hk hk2
             · intro k ok hk hok' hkl j hj
               have old : listed.getD j false = true → (listed.setIfInBounds i true).getD j false = true := by
                 intro hjl
                 rw [Array.getD_eq_getD_getElem?, Array.getElem?_setIfInBounds]
                 split
                 · rename_i hij; subst hij; simp [hls, h1]
                 · rw [← Array.getD_eq_getD_getElem?]; exact hjl
               by_cases hik : i = k
               · subst hik
                 rw [ho1] at hok'
                 obtain rfl := Option.some.inj hok'
                 exact old (ho2' j hj)
               · rw [Array.getD_eq_getD_getElem?, Array.getElem?_setIfInBounds, if_neg hik, ← Array.getD_eq_getD_getElem?] at hkl
                 exact old (hdc k ok hk hok' hkl j hj)
             · refine ⟨h', ρ, ?_, ?_⟩
               · refine { (hlift _ hhalf.rel) with size := by simp [Act.put, hhalf.rel.size], defers := (hlift _ hhalf.rel).defers, fr := fun t x hx => ?_ }
                 obtain ⟨hb1, hb2⟩ := base_spec hx
                 obtain ⟨h3, h4⟩ := (hlift _ hhalf.rel).fr t x hx
                 have hne : d ≠ t := by
                   rintro rfl
                   exact hb1 (hdstin i d av him hout)
                 refine ⟨h3, ?_⟩
                 have : (a.put (some d) v).tmps.getD t undef = a.tmps.getD t undef := by
                   simp [Act.put, Array.getD_eq_getD_getElem?, Array.getElem?_setIfInBounds, hne]
                 rw [this]
                 exact h4.anyTm hb2
               · intro k dk avk hk hkl hko
                 by_cases hik : i = k
                 · subst hik
                   rw [hout] at hko
                   simp only [Option.some.injEq, Prod.mk.injEq] at hko
                   obtain ⟨rfl, rfl⟩ := hko
                   refine ⟨hdn, ?_⟩
                   have : (a.put (some d) v).tmps.getD d undef = v := by simp [Act.put, hhalf.rel.size, hdn]
                   rw [this]; exact hv
                 · rw [Array.getD_eq_getD_getElem?, Array.getElem?_setIfInBounds, if_neg hik, ← Array.getD_eq_getD_getElem?] at hkl
                   obtain ⟨h3, h40⟩ := hhalf.done k dk avk hk hkl hko
                   have h4 := h40.mono hext
                   have hne : d ≠ dk := by
                     rintro rfl
                     exact hik (hdist i k d av avk him hk hout hko)
                   refine ⟨h3, ?_⟩
                   have : (a.put (some d) v).tmps.getD dk undef = a.tmps.getD dk undef := by
                     simp [Act.put, Array.getD_eq_getD_getElem?, Array.getElem?_setIfInBounds, hne]
                   rw [this]
                   cases avk with
                   | mb g b x =>
                     intro ht
                     refine h4 ?_
                     -- the slot that it looks at was written before
                     obtain ⟨dk', avk', e1, e2, _, e4⟩ := hent k ops'[k] hk (Array.getElem?_eq_getElem (by omega))
                     rw [hko] at e2
                     simp only [Option.some.injEq, Prod.mk.injEq] at e2
                     obtain ⟨rfl, rfl⟩ := e2
                     obtain ⟨j, hgd, hgs⟩ := e4 g b x rfl
                     have hjE := (edges_ltL hok (Array.getElem?_eq_getElem (show k < ops'.size by omega))).2.1 j b hgd
                     have hjl := hdc k ops'[k] hk (Array.getElem?_eq_getElem (by omega)) hkl j hjE
                     have hjlt := (edges_ltL hok (Array.getElem?_eq_getElem (show k < ops'.size by omega))).1 j hjE
                     have hgd' : d ≠ g := by
                       intro hdg0
                       unfold guardSlot at hgs
                       obtain ⟨oj, hoj, hdj⟩ := Option.bind_eq_some_iff.1 hgs
                       obtain ⟨dj, avj, f1, f2, _⟩ := hent j oj (by omega) hoj
                       rw [hdj, ← hdg0] at f1
                       rw [← Option.some.inj f1] at f2
                       have := hdist i j d av avj him (by omega) hout f2
                       subst this
                       rw [h2] at hjl; cases hjl
                     have : (a.put (some d) v).tmps[g]? = a.tmps[g]? := by
                       simp [Act.put, Array.getElem?_setIfInBounds, hgd']
                     rw [this] at ht; exact ht
                   | _ => exact h4
             · have : ((List.range ops'.size).filter fun k => (listed.setIfInBounds i true).getD k false).length = ((List.range ops'.size).filter fun k => listed.getD k false).length + 1 := by
                 have hset : ∀ k, k < ops'.size → (listed.setIfInBounds i true).getD k false = (decide (k = i) || listed.getD k false) := by
                   intro k hk
                   rw [Array.getD_eq_getD_getElem?, Array.getElem?_setIfInBounds]
                   by_cases hik : i = k
                   · subst hik; simp [hls, h1]
                   · rw [if_neg hik, ← Array.getD_eq_getD_getElem?]; simp [Ne.symm hik]
                 rw [List.filter_congr (q := fun k => decide (k = i) || listed.getD k false) (fun k hk => hset k (by simpa using hk))]
                 exact count_one ops'.size i (fun k => listed.getD k false) h1 h2
               rw [this]; omega
           exact hdrawn h ρ a w hrelI _ _ (fun h' v w' e1 e2 e3 => next h' v w' e1 (fun frx => e2 frx L (fun _ _ e => e)) e3)
          by_cases hl8 : ∀ i, i < m → listed.getD i false = false → i ∈ late
          · obtain ⟨k, ⟨hk1, hk2⟩, hk3⟩ := least_of (p := fun i => i < m ∧ listed.getD i false = false) i0 ⟨hi0, hi0l⟩
            have hk3' : ∀ j, j < k → listed.getD j false = true := by
              intro j hj
              have := hk3 j hj
              cases hq : listed.getD j false with
              | true => rfl
              | false => exact (this ⟨by omega, hq⟩).elim
            have hkop : ops'[k]? = some ops'[k] := Array.getElem?_eq_getElem (by omega)
            have hkr : k ∈ Region.ready .any ops' listed := mem_ready'.2 ⟨by omega, by rw [gd k _ (by omega)]; exact hk2, ops'[k], hkop, fun j hj => hk3' j ((edges_ltL hok hkop).1 j hj)⟩
            obtain ⟨hlp, hap⟩ := hlate k ops'[k] (hl8 k hk1 hk2) hkop
            obtain ⟨v, hy, hK⟩ := late_yields hkop hlp (one k hkr hk1) (fun c a w hh => by obtain ⟨_, _, _, h, _⟩ := hh; cases h) (fun ⟨_, _, hh⟩ => by obtain ⟨_, _, _, h, _⟩ := hh; cases h)
            refine wpAny_first hkop (Region.noSelect_spec hnosel) (fun c a w hh => by obtain ⟨_, _, _, h, _⟩ := hh; cases h) fuel listed a w (fun j oj hj hjk hjl hno => ?_) hkr hy hK
            have hjs := (Array.getElem?_eq_some_iff.1 hj).1
            rw [gd j _ hjs] at hjl
            refine hap j oj hj hjk ?_ (fun hme => ?_)
            · rcases Nat.lt_or_ge j m with h3 | h3
              · exact .inl (hl8 j h3 hjl)
              · exact .inr h3
            · obtain ⟨e, he, hee⟩ := List.mem_map.1 hme
              obtain ⟨he1, he2⟩ := List.mem_filter.1 he
              exact hno e (by simpa using he1) he2 hee
          · obtain ⟨i1, hi1, hi1l, hi1n⟩ : ∃ i, i < m ∧ listed.getD i false = false ∧ i ∉ late := by
              simp only [Classical.not_forall] at hl8
              obtain ⟨i, x1, x2, x3⟩ := hl8; exact ⟨i, x1, x2, x3⟩
            refine ⟨fun e => (hnonempty e).elim, fun i hi => ?_⟩
            obtain ⟨h1, h2, o, ho1, ho2'⟩ := mem_ready'.1 hi
            refine one i hi ?_
            rcases Nat.lt_or_ge i m with h3 | h3
            · exact h3
            · exfalso
              have h3m : m = i := by
                rcases Nat.lt_or_ge m i with h4 | h4
                · have := ho2' (i - 1) ((edges_ltL hok ho1).2.2.2.2 h4)
                  rw [htl (i - 1) (by omega) (by omega)] at this; cases this
                · omega
              have all : ∀ d j, m - j ≤ d → j < m → j ∉ late → listed.getD j false = true := by
                intro d
                induction d with
                | zero => intro j h4 h5; omega
                | succ d ihd =>
                  intro j h4 h5 h6
                  rcases (edges_ltL hok ho1).2.2.2.1 h3m j (by omega) with h7 | h7 | ⟨k, ok, k1, k2, k3, k4⟩
                  · exact ho2' j h7
                  · exact (h6 h7).elim
                  · have := (edges_ltL hok k3).1 j k4
                    exact hdc k ok k1 k3 (ihd k (by omega) k1 k2) j k4
              have := all m i1 (by omega) hi1 hi1n
              rw [hi1l] at this; cases this
    refine region_any hpl hm (quiet ops'.size _ a _ (by simp) (fun i _ hi => by simp [Array.getD_eq_getD_getElem?, hi]) (fun i o hi ho hl => ?_) ?_ (by omega))
    · rw [Array.getD_eq_getD_getElem?] at hl
      simp [show i < ops'.size by omega] at hl
    · obtain ⟨h, ρ, hr'⟩ := hr.drawn
      refine ⟨h, ρ, { hr' with fr := base_get (fun p hp => hr'.fr p.1 p.2 (once_get honce hp)) }, fun i d av hi hl => ?_⟩
      rw [Array.getD_eq_getD_getElem?] at hl
      simp [show i < ops'.size by omega] at hl
  · simp at htail

theorem W_draw3 {B : Code} {p : List Nat} {Q : Post} {fr' : Fr} {L' : LL} (m : Nat) (late : List Nat) (orcs : List (Nat × Orc)) (cs : List (Nat × List (Option Ty) × AV)) (kF kL : List Nat) {out : List (Nat × AV)} {obs obs2 : List Prop} {calls : List (Nat × List AV × AV)} (hdr : isDraw (nav B p) = true)
    (hm : C.P.follows .mixedOrders = true) (hok : (drawOkL (opsOf (nav B p)) m late && dstOk C.n (opsOf (nav B p)) && once fr) = true)
    (he : ents2 C.P (opsOf (nav B p)) (baseFr (opsOf (nav B p)) m fr) L orcs cs 0 ((opsOf (nav B p)).toList.take m) [] = some (out, obs, calls)) (ho : AllP obs) (hc : AllC C.P calls)
    (htail : (match run C.P (opsOf (nav B p)) orcs m ((opsOf (nav B p)).toList.drop m) (out ++ baseFr (opsOf (nav B p)) m fr) L with | some (f, l, ob) => (restr kF kL f l).map fun r => (r.1, r.2, ob) | none => none) = some (fr', L', obs2)) (ho2 : AllP obs2)
    (hn : Q .normal fr' L') : W C (nav B p) Q fr L := by
  obtain ⟨h1, _, h3⟩ := ents2_spec _ 0 [] out obs calls rfl he ho hc (fun k o hk => by
    rw [Nat.zero_add]
    have : k < m := by
      have := (List.getElem?_eq_some_iff.1 hk).1
      simp at this; omega
    rw [List.getElem?_take_of_lt this] at hk
    simpa using hk)
  have hmle : m ≤ (opsOf (nav B p)).size := by
    simp only [Bool.and_eq_true] at hok
    exact (drawOkL_parts hok.1.1).1
  refine W_drawL m late orcs kF kL hdr hm hok (by rw [h1]; simp; omega) (fun i o hi hoi => ?_) htail ho2 hn
  have := h3 i o (by rw [List.getElem?_take_of_lt hi]; simpa using hoi)
  simpa using this
end
end Go.Sl

/- Calls in drawn regions that are handed objects which they leave as they are (captured variables). -/
namespace Go.Sl
open Go
section
variable {C : Ctx} {h : Heap} {ρ : Nat → Value} {fr : Fr} {L : LL} {a : Act} {w : World}
theorem RelH.less {L' : LL} (hr : RelH C h ρ fr L' a w) (hs : ∀ s o, get L s = some o → get L' s = some o) : RelH C h ρ fr L a w :=
  { hr with
    objs := fun s o e => hr.objs s o (hs s o e)
    apart := fun s s' o o' b hne e e' => hr.apart s s' o o' b hne (hs s o e) (hs s' o' e')
    low := fun s o b e => hr.low s o b (hs s o e) }
theorem putAll_same {σ : List (Nat × Nat)} : ∀ {Lin : LL}, (∀ c o, (c, o) ∈ Lin → get L (sig σ c) = some (o.ren (sig σ))) → ∀ s o, get L s = some o → get (putAll σ Lin L) s = some o
  | [], _, s, o, e => e
  | (c, p) :: r, hL, s, o, e => by
    rw [putAll, get_put]
    by_cases hc : sig σ c = s
    · rw [if_pos hc]
      have := hL c p (by simp)
      rw [hc, e] at this
      exact this.symm
    · rw [if_neg hc]
      exact putAll_same (fun c o hm => hL c o (by simp [hm])) s o e

theorem keep_sub {α : Type} {L Lx : List (Nat × α)} (hs : ∀ s o, get L s = some o → get Lx s = some o) : ∀ {ks : List Nat} {M : List (Nat × α)}, keep ks L = some M → keep ks Lx = some M
  | [], M, e => e
  | k :: ks, M, e => by
    simp only [keep] at e ⊢
    split at e
    · rename_i x r hx hr
      rw [hs k x hx, keep_sub hs hr]
      exact e
    · cases e
theorem cDrawL_drawn {ops : Array Oper} {i : Nat} {o : Oper} {d : Nat} {frI : Fr} {us : List (Option Ty)} {f : Nat} {as : List AV} {q : Prop} {R : AV} {Lin : LL} (σ : List (Nat × Nat)) (ho1 : ops[i]? = some o) (hd1 : o.dst = some d)
    (hc : cDraw ops frI us o = some (f, as.map (AV.ren (sig σ)), q)) (hq : q)
    (hfn : isFn C.P f = true) (hF : FnC C.P f as Lin R Lin) (hL : keep (Lin.map fun p => sig σ p.1) L = some (Lin.map fun p => (sig σ p.1, p.2.ren (sig σ)))) (hk : (lendOk σ Lin Lin && R.data) = true) : Drawn C ops i d R frI L := by
  intro h ρ a w hr Q K next0
  simp only [Bool.and_eq_true] at hk
  obtain ⟨hk, hR⟩ := hk
  have hk0 := hk
  unfold lendOk at hk0
  simp only [Bool.and_eq_true, decide_eq_true_eq] at hk0
  obtain ⟨⟨⟨⟨hnd, hsnd⟩, _⟩, _⟩, _⟩ := hk0
  unfold cDraw at hc
  split at hc
  · rename_i gd q' hg
    obtain ⟨⟨f', as0⟩, hcall, hd⟩ := Option.bind_eq_some_iff.1 hc
    obtain ⟨as', hco, he⟩ := Option.map_eq_some_iff.1 hd
    simp only [Prod.mk.injEq] at he
    obtain ⟨rfl, rfl, rfl⟩ := he
    obtain ⟨hw, hgd⟩ := guardIs_spec hr hg hq
    obtain ⟨vs, hrun, hall0⟩ := callOf_spec hr hgd hcall hfn
    have hall := coer_spec _ _ _ _ hco hall0
    unfold wpOp
    rw [ho1]
    simp only
    rw [if_pos hw]
    left
    unfold Oper.wp
    rw [hrun, Oper.upon_enter]
    have inL : ∀ {c o}, get Lin c = some o → get L (sig σ c) = some (o.ren (sig σ)) := fun hg => keep_map hL (get_mem _ _ _ hg)
    refine (hF h (fun c => ρ (sig σ c)) w vs hr.heap (fun s o hs => orel_ren.2 ((hr.objs _ _ (inL hs)).own_mono fun _ _ => trivial)) ?_ (all2_vrel_ren hall)).mono ?_
    · intro s s' o1 o2 b hne hs hs' hb
      refine hr.apart (sig σ s) (sig σ s') _ _ b (fun e => hne ?_) (inL hs) (inL hs') hb
      have := nodup_map_inj hsnd (get_mem _ _ _ hs) (get_mem _ _ _ hs') e
      simp only [Prod.mk.injEq] at this
      exact this.1
    · rintro e w' ⟨v, h', ρ', rfl, hrel, hout⟩
      show K (a.put o.dst v) w'
      rw [hd1]
      refine next0 h' v w' hout.ext (fun _ Lx hsub hx => (hx.lend hk (keep_sub hsub hL) (fun _ _ e => e) hout).less (putAll_same fun c o hm => keep_map (keep_sub hsub hL) hm)) ?_
      cases R with
      | one x => exact SRel.ofData hR hrel
      | tup xs =>
        obtain ⟨us, rfl, hall2⟩ := hrel
        exact ⟨us, rfl, all2_ofData hR hall2⟩
      | agg _ => simp [AV.data] at hR
      | mb _ _ _ => simp [AV.data] at hR
  · simp at hc

/-- calls that may be handed objects, which they leave as they are -/
def AllD (P : Program) (L : LL) : List (Nat × List AV × AV) → Prop
  | [] => True
  | (f, as, R) :: r => (isFn P f = true ∧ R.data = true ∧ ∃ (σ : List (Nat × Nat)) (as0 : List AV) (Lin : LL), as = as0.map (AV.ren (sig σ)) ∧ FnC P f as0 Lin R Lin ∧
      keep (Lin.map fun p => sig σ p.1) L = some (Lin.map fun p => (sig σ p.1, p.2.ren (sig σ))) ∧ lendOk σ Lin Lin = true) ∧ AllD P L r
theorem allD0 {P : Program} {L : LL} : AllD P L [] := trivial
theorem allD2 {P : Program} {L : LL} {f : Nat} {as : List AV} {R : AV} {r : List (Nat × List AV × AV)} (σ : List (Nat × Nat)) (as0 : List AV) (Lin : LL) (h1 : isFn P f = true) (h2 : FnC P f as0 Lin R Lin) (h3 : R.data = true)
    (h4 : as = as0.map (AV.ren (sig σ))) (h5 : keep (Lin.map fun p => sig σ p.1) L = some (Lin.map fun p => (sig σ p.1, p.2.ren (sig σ)))) (h6 : lendOk σ Lin Lin = true) (t : AllD P L r) : AllD P L ((f, as, R) :: r) := ⟨⟨h1, h3, σ, as0, Lin, h4, h2, h5, h6⟩, t⟩
theorem ents2_specD {ops : Array Oper} {fr0 : Fr} {orcs : List (Nat × Orc)} {cs : List (Nat × List (Option Ty) × AV)} : ∀ (l : List Oper) (i : Nat) (acc out : List (Nat × AV)) (obs : List Prop) (calls : List (Nat × List AV × AV)), acc.length = i →
    ents2 C.P ops fr0 L orcs cs i l acc = some (out, obs, calls) → AllP obs → AllD C.P L calls → (∀ k o, l[k]? = some o → ops[i + k]? = some o) →
    out.length = i + l.length ∧ (∀ k, k < i → out[k]? = acc[k]?) ∧ ∀ k o, l[k]? = some o → ∃ d av, o.dst = some d ∧ out[i + k]? = some (d, av) ∧ Drawn C ops (i + k) d av (pick (out.take (i + k)) (edgesOf o) ++ fr0) L ∧
      (∀ g b x, av = .mb g b x → ∃ j, o.guard = some (j, b) ∧ guardSlot ops j = some g)
  | [], i, acc, out, obs, calls, hl, h, _, _, _ => by
    simp only [ents2, Option.some.injEq, Prod.mk.injEq] at h
    obtain ⟨rfl, _⟩ := h
    exact ⟨by simp [hl], fun _ _ => rfl, fun k o hk => by simp at hk⟩
  | o :: l, i, acc, out, obs, calls, hl, h, ho, hcl, hops => by
    have fin : ∀ (d : Nat) (av : AV) (l' : List (Nat × AV)) (q : List Prop) (cl : List (Nat × List AV × AV)), o.dst = some d → ents2 C.P ops fr0 L orcs cs (i + 1) l (acc ++ [(d, av)]) = some (l', q, cl) → AllP q → AllD C.P L cl →
        (Drawn C ops i d av (pick acc (edgesOf o) ++ fr0) L ∧ (∀ g b x, av = .mb g b x → ∃ j, o.guard = some (j, b) ∧ guardSlot ops j = some g)) → 
        l'.length = i + (o :: l).length ∧ (∀ k, k < i → l'[k]? = acc[k]?) ∧ ∀ k o', (o :: l)[k]? = some o' → ∃ d av, o'.dst = some d ∧ l'[i + k]? = some (d, av) ∧ Drawn C ops (i + k) d av (pick (l'.take (i + k)) (edgesOf o') ++ fr0) L ∧
          (∀ g b x, av = .mb g b x → ∃ j, o'.guard = some (j, b) ∧ guardSlot ops j = some g) := by
      intro d av l' q cl hd he hq hcl' hdr
      obtain ⟨h1, h2, h3⟩ := ents2_specD l (i + 1) (acc ++ [(d, av)]) l' q cl (by simp [hl]) he hq hcl' (fun k o' hk => by
        have := hops (k + 1) o' (by simpa using hk)
        rwa [show i + (k + 1) = i + 1 + k by omega] at this)
      have hacc : l'.take i = acc := by
        apply List.ext_getElem?
        intro k
        rw [List.getElem?_take]
        split
        · rename_i hk
          rw [h2 k (by omega), List.getElem?_append_left (by omega)]
        · rw [List.getElem?_eq_none (by omega)]
      refine ⟨by rw [h1]; simp; omega, fun k hk => ?_, fun k o' hk => ?_⟩
      · rw [h2 k (by omega), List.getElem?_append_left (by omega)]
      · cases k with
        | zero =>
          simp only [List.getElem?_cons_zero, Option.some.injEq] at hk
          subst hk
          refine ⟨d, av, hd, ?_, ?_, hdr.2⟩
          · rw [Nat.add_zero, h2 i (by omega), List.getElem?_append_right (by omega)]; simp [hl]
          · rw [Nat.add_zero, hacc]; exact hdr.1
        | succ k =>
          obtain ⟨d', av', a1, a2, a3, a4⟩ := h3 k o' (by simpa using hk)
          have e : i + 1 + k = i + (k + 1) := by omega
          rw [e] at a2 a3
          exact ⟨d', av', a1, a2, a3, a4⟩
    have hoi : ops[i]? = some o := by simpa using hops 0 o rfl
    simp only [ents2] at h
    split at h
    · rename_i d hd
      split at h
      · rename_i us R hcs
        split at h
        · rename_i f as q hcd
          split at h
          · rename_i l' obs' calls' he
            simp only [Option.some.injEq, Prod.mk.injEq] at h
            obtain ⟨rfl, rfl, rfl⟩ := h
            obtain ⟨hq1, hq2⟩ := AllP.cons' ho
            obtain ⟨⟨hfn, hR, σ, as0, Lin, e0, hF, hL, hk⟩, hcl2⟩ := hcl
            subst e0
            exact fin d R _ _ _ hd he hq2 hcl2 ⟨cDrawL_drawn σ hoi hd hcd hq1 hfn hF hL (by rw [hk, hR]; rfl), fun g b x e => by subst e; simp [AV.data] at hR⟩
          · simp at h
        · simp at h
      · split at h
        · rename_i av p hk
          split at h
          · rename_i l' obs' calls' he
            simp only [Option.some.injEq, Prod.mk.injEq] at h
            obtain ⟨rfl, rfl, rfl⟩ := h
            obtain ⟨hq1, hq2⟩ := ho.append
            exact fin d av _ _ _ hd he hq2 hcl (kDraw_drawn hoi hd hk hq1)
          · simp at h
        · simp at h
    · simp at h

theorem W_draw4 {B : Code} {p : List Nat} {Q : Post} {fr' : Fr} {L' : LL} (m : Nat) (late : List Nat) (orcs : List (Nat × Orc)) (cs : List (Nat × List (Option Ty) × AV)) (kF kL : List Nat) {out : List (Nat × AV)} {obs obs2 : List Prop} {calls : List (Nat × List AV × AV)} (hdr : isDraw (nav B p) = true)
    (hm : C.P.follows .mixedOrders = true) (hok : (drawOkL (opsOf (nav B p)) m late && dstOk C.n (opsOf (nav B p)) && once fr) = true)
    (he : ents2 C.P (opsOf (nav B p)) (baseFr (opsOf (nav B p)) m fr) L orcs cs 0 ((opsOf (nav B p)).toList.take m) [] = some (out, obs, calls)) (ho : AllP obs) (hc : AllD C.P L calls)
    (htail : (match run C.P (opsOf (nav B p)) orcs m ((opsOf (nav B p)).toList.drop m) (out ++ baseFr (opsOf (nav B p)) m fr) L with | some (f, l, ob) => (restr kF kL f l).map fun r => (r.1, r.2, ob) | none => none) = some (fr', L', obs2)) (ho2 : AllP obs2)
    (hn : Q .normal fr' L') : W C (nav B p) Q fr L := by
  obtain ⟨h1, _, h3⟩ := ents2_specD _ 0 [] out obs calls rfl he ho hc (fun k o hk => by
    rw [Nat.zero_add]
    have : k < m := by
      have := (List.getElem?_eq_some_iff.1 hk).1
      simp at this; omega
    rw [List.getElem?_take_of_lt this] at hk
    simpa using hk)
  have hmle : m ≤ (opsOf (nav B p)).size := by
    simp only [Bool.and_eq_true] at hok
    exact (drawOkL_parts hok.1.1).1
  refine W_drawL m late orcs kF kL hdr hm hok (by rw [h1]; simp; omega) (fun i o hi hoi => ?_) htail ho2 hn
  have := h3 i o (by rw [List.getElem?_take_of_lt hi]; simpa using hoi)
  simpa using this
end
end Go.Sl

/- A variable of one's own made data: pointers to it lead to data. -/
namespace Go.Sl
open Go
def SV.fz (s : Nat) (t : Ty) (x : t.den) : SV → SV
  | .ptr r o => if r = s then (if o = 0 then .dptr t x else .any) else .ptr r o
  | .eptr r z i o => if r = s then .any else .eptr r z i o
  | .sub r z i o => if r = s then .any else .sub r z i o
  | .slc r => if r = s then .any else .slc r
  | .fn f caps => if caps.any (·.1 == s) then .any else .fn f caps
  | y => y
def AV.fz (s : Nat) (t : Ty) (x : t.den) : AV → AV
  | .one y => .one (y.fz s t x)
  | .agg cs => .agg (cs.map (SV.fz s t x))
  | .tup cs => .tup (cs.map (SV.fz s t x))
  | .mb g b y => .mb g b (y.fz s t x)
def LObj.fz (s : Nat) (t : Ty) (x : t.den) : LObj → LObj
  | .cells cs => .cells (cs.map (SV.fz s t x))
  | o => o
def fzF (fr : Fr) (L : LL) (s : Nat) : Option (Fr × LL) :=
  match get L s with
  | some (.one t x) => if s < 1000 then some (mapv (AV.fz s t x) fr, mapv (LObj.fz s t x) (del L s)) else none
  | _ => none
def fzT (fr : Fr) (L : LL) (s : Nat) : Fr × LL := (fzF fr L s).getD (fr, L)

theorem SRel.fz {h h' : Heap} {ρ : Nat → Value} {s : Nat} {t : Ty} {x : t.den} {y : SV} {v : Value} (hx : Ext h h') (hs : ∃ b blk, ρ s = .pointer (some ⟨b, 0, none⟩) ∧ h' b = some blk ∧ rep h' t x blk) (e : SRel h ρ y v) : SRel h' ρ (y.fz s t x) v := by
  cases y <;> simp only [SV.fz] <;> first
    | exact e.mono hx
    | (split
       · rename_i hr
         first
         | trivial
         | (split
            · rename_i ho
              subst hr ho
              obtain ⟨b, blk, h1, h2, h3⟩ := hs
              obtain ⟨b', h4, rfl⟩ := e
              rw [h1] at h4
              simp only [Value.pointer.injEq, Option.some.injEq, Addr.mk.injEq, and_true] at h4
              subst h4
              have hl := rep_len _ _ _ _ h3
              exact ⟨b, 0, blk, h2, by omega, by rw [cut_full _ _ hl]; exact h3, rfl⟩
            · trivial)
       · exact e.mono hx)
theorem all2_fz {h h' : Heap} {ρ : Nat → Value} {s : Nat} {t : Ty} {x : t.den} {cs : List SV} {vs : List Value} (hx : Ext h h') (hs : ∃ b blk, ρ s = .pointer (some ⟨b, 0, none⟩) ∧ h' b = some blk ∧ rep h' t x blk) (hall : All2 (SRel h ρ) cs vs) :
    All2 (SRel h' ρ) (cs.map (SV.fz s t x)) vs := by
  induction hall with
  | nil => exact .nil
  | cons h1 _ ih => exact .cons (SRel.fz hx hs h1) ih

section
variable {C : Ctx} {a : Act} {w : World} {fr : Fr} {L : LL}
theorem Rel.fz {s : Nat} {t : Ty} {x : t.den} (hr : Rel C fr L a w) (hs : get L s = some (.one t x)) (hlt : s < 1000) :
    Rel C (mapv (AV.fz s t x) fr) (mapv (LObj.fz s t x) (del L s)) a w := by
  obtain ⟨h, ρ, hr⟩ := hr
  have hlow : ∀ b, Blk (ρ s) b → C.w0.heap.size ≤ b := fun b hb => hr.low s _ b hs hlt hb
  obtain ⟨b, cur, el, hrs, h1, h2, h3, h4⟩ := hr.objs s _ hs
  let h' : Heap := fun k => if k = b then some cur.toList else h k
  have hext : Ext h h' := by
    intro k xs hk
    show (if k = b then _ else _) = _
    by_cases hkb : k = b
    · subst hkb; rw [h2] at hk; cases hk
    · rw [if_neg hkb]; exact hk
  have hnew : ∀ k, h k = none → h' k ≠ none → k = b := by
    intro k hk hk'
    by_cases hkb : k = b
    · exact hkb
    · exact (hk' (by show (if k = b then _ else _) = _; rw [if_neg hkb]; exact hk)).elim
  have hb' : h' b = some cur.toList := by show (if b = b then _ else _) = _; rw [if_pos rfl]
  have hrep : rep h' t x cur.toList := rep_mono hext _ _ _ h4
  have hsp : ∃ b blk, ρ s = .pointer (some ⟨b, 0, none⟩) ∧ h' b = some blk ∧ rep h' t x blk := ⟨b, _, hrs, hb', hrep⟩
  have getdel : ∀ k o, get (mapv (LObj.fz s t x) (del L s)) k = some o → k ≠ s ∧ ∃ p, get L k = some p ∧ o = p.fz s t x := by
    intro k o ho
    rw [get_mapv] at ho
    obtain ⟨p, hp, rfl⟩ := Option.map_eq_some_iff.1 ho
    rw [get_del] at hp
    split at hp
    · cases hp
    · rename_i hne; exact ⟨fun e => hne e.symm, p, hp, rfl⟩
  refine ⟨h', ρ, { hr with fr := fun k av hk => ?_, heap := fun k cs hk => ?_, objs := fun k o ho => ?_, apart := fun k k' o o' c hne ho ho' hb => ?_, ext := hr.ext.trans hext, fresh := fun k h0 hk => ?_, low := fun k o c ho hk hb => ?_ }⟩
  · rw [get_mapv] at hk
    obtain ⟨y, hy, rfl⟩ := Option.map_eq_some_iff.1 hk
    refine ⟨(hr.fr k y hy).1, ?_⟩
    have hv := (hr.fr k y hy).2
    cases y <;> simp only [AV.fz, VRel] at hv ⊢
    · exact hv.fz hext hsp
    · obtain ⟨vs, e, hf⟩ := hv; exact ⟨vs, e, all2_fz hext hsp hf⟩
    · obtain ⟨vs, e, hf⟩ := hv; exact ⟨vs, e, all2_fz hext hsp hf⟩
    · exact fun ht => (hv ht).fz hext hsp
  · by_cases hkb : k = b
    · subst hkb
      rw [hb'] at hk
      obtain rfl := Option.some.inj hk
      exact ⟨cur, el, _, h3, List.prefix_refl _⟩
    · have : h k = some cs := by
        have : h' k = h k := by show (if k = b then _ else _) = _; rw [if_neg hkb]
        rw [← this]; exact hk
      exact hr.heap k cs this
  · obtain ⟨hks, p, hp, rfl⟩ := getdel k o ho
    have hob := hr.objs k p hp
    have hn : ∀ c, Blk (ρ k) c → h' c = none := by
      intro c hc
      cases hq : h' c with
      | none => rfl
      | some q =>
        have h0 := (hob.block hc).2.1
        have := hnew c h0 (by rw [hq]; simp)
        subst this
        exact (hr.apart k s _ _ c hks hp hs hc (by rw [hrs]; rfl)).elim
    have hob2 := hob.toHeap hext (fun _ _ => rfl) hn
    cases p <;> simp only [LObj.fz] <;> try exact hob2
    obtain ⟨b2, cur2, el2, e1, e2, e3, e4, e5, e6⟩ := hob
    exact ⟨b2, cur2, el2, e1, e2, hn b2 (by rw [e1]; rfl), e4, all2_fz hext hsp e5, e6⟩
  · obtain ⟨_, p1, hp1, rfl⟩ := getdel k o ho
    obtain ⟨_, p2, hp2, rfl⟩ := getdel k' o' ho'
    exact hr.apart k k' p1 p2 c hne hp1 hp2 hb
  · cases hq : h' k with
    | none => rfl
    | some q =>
      have hn := hr.fresh k h0 hk
      have := hnew k hn (by rw [hq]; simp)
      subst this
      have := hlow k (by rw [hrs]; rfl)
      omega
  · obtain ⟨_, p1, hp1, rfl⟩ := getdel k o ho
    exact hr.low k p1 c hp1 hk hb
theorem Rel.fzT {s : Nat} (hr : Rel C fr L a w) (hk : (fzF fr L s).isSome = true) : Rel C (fzT fr L s).1 (fzT fr L s).2 a w := by
  unfold Sl.fzT
  unfold Sl.fzF at hk ⊢
  split at hk
  · rename_i t x hs
    split at hk
    · rename_i hlt
      rw [if_pos hlt]
      exact hr.fz hs hlt
    · cases hk
  · cases hk
end
section
variable {C : Ctx} {fr : Fr} {L : LL} {Q : Post}
theorem W_fz {c : Code} (s : Nat) (h : (fzF fr L s).isSome = true) (hw : W C c Q (fzT fr L s).1 (fzT fr L s).2) : W C c Q fr L := fun a w hr => hw a w (hr.fzT h)
theorem WO_fz {ops : Array Oper} {i : Nat} (s : Nat) (h : (fzF fr L s).isSome = true) (hw : WO C ops i Q (fzT fr L s).1 (fzT fr L s).2) : WO C ops i Q fr L := fun a w hr => hw a w (hr.fzT h)
end
/-- what an operation made, as data -/
def frzF2 (fr : Fr) (L : LL) (s : Nat) : Option (Fr × LL) := match frzF fr L s with | some r => some r | none => fzF fr L s
theorem Rel.frzF2 {C : Ctx} {a : Act} {w : World} {fr fr' : Fr} {L L' : LL} {s : Nat} (hr : Rel C fr L a w) (h : Sl.frzF2 fr L s = some (fr', L')) : Rel C fr' L' a w := by
  unfold Sl.frzF2 at h
  split at h
  · rename_i r hq
    obtain rfl := Option.some.inj h
    exact hr.frzF hq
  · have := hr.fzT (s := s) (by rw [h]; rfl)
    unfold Sl.fzT at this
    rw [h] at this
    exact this
end Go.Sl

/- Operations in drawn regions that make new slices, which are data from there on. -/
namespace Go.Sl
open Go
section
variable {C : Ctx} {h : Heap} {ρ : Nat → Value} {fr : Fr} {L : LL} {a : Act} {w : World}

def aDraw (P : Program) (ops : Array Oper) (fr : Fr) (ov : Option Orc) (d : Nat) (o : Oper) : Option (AV × List Prop) :=
  match guardIs ops fr o with
  | some (gd, q) =>
    match exec P fr [] gd ov o with
    | some (f, l, obs) =>
      match frzF2 f l d with
      | some (f', _) => match get f' d with
        | some av => if av.data then some (av, q :: obs) else none
        | none => none
      | none => none
    | none => none
  | none => none

theorem aDraw_drawn {ops : Array Oper} {i : Nat} {o : Oper} {d : Nat} {frI : Fr} {ov : Option Orc} {av : AV} {obs : List Prop} (ho1 : ops[i]? = some o) (hd1 : o.dst = some d) (hdn : d < C.n)
    (hx : aDraw C.P ops frI ov d o = some (av, obs)) (hobs : AllP obs) : Drawn C ops i d av frI L ∧ av.data = true := by
  unfold aDraw at hx
  split at hx
  · rename_i gd q hg
    split at hx
    · rename_i f l obs' hex
      split at hx
      · rename_i f' l' hfrz
        split at hx
        · rename_i av' hget
          split at hx
          · rename_i hdat
            simp only [Option.some.injEq, Prod.mk.injEq] at hx
            obtain ⟨rfl, rfl⟩ := hx
            refine ⟨?_, hdat⟩
            obtain ⟨hq, hob⟩ := AllP.cons' hobs
            intro h ρ a w hr Q K next0
            obtain ⟨hw, hgd⟩ := guardIs_spec hr hg hq
            let C0 : Ctx := ⟨C.P, C.n, w, h, fun _ => False, fun _ => none, C.rd, C.dlo⟩
            have hr0 : RelH C0 h ρ frI [] a w := ⟨hr.size, hr.defers, hr.fr, hr.heap, fun s o hs => (by simp [get] at hs), fun s s' o o' b _ hs => (by simp [get] at hs), Ext.refl h, fun _ e _ => e, rfl, rfl, rfl, Nat.le_refl _,
              fun _ _ _ => rfl, fun _ e => e.elim, fun s v e => (by cases e), fun _ _ => rfl, fun s o b hs => (by simp [get] at hs)⟩
            have fin : ∀ (v : Value) (w' : World), Rel C0 f l (a.put o.dst v) w' → K (a.put (some d) v) w' := by
              intro v w' hrel
              obtain ⟨h', ρ', hr'⟩ := hrel.frzF2 hfrz
              have hout : Out h ρ w [] h' ρ' w' [] := ⟨hr'.ext, hr'.heap, hr'.fresh, hr'.os, hr'.tape, hr'.output, hr'.grow, fun b hb _ => hr'.frame b hb (fun e => e), fun s o hs => (by simp [get] at hs),
                fun s s' o o' b _ hs => (by simp [get] at hs), fun s _ ⟨o, ho⟩ => (by simp [get] at ho), fun s o b hs => (by simp [get] at hs)⟩
              refine next0 h' v w' hr'.ext (fun _ _ _ hx => hx.extend hout) ?_
              have hv := (hr'.fr d _ hget).2
              have hval : (a.put o.dst v).tmps.getD d undef = v := by
                rw [hd1]; simp [Act.put, hr.size, hdn]
              rw [hval] at hv
              cases av' with
              | one x => exact SRel.ofData hdat hv
              | tup xs =>
                obtain ⟨us, rfl, hall2⟩ := hv
                exact ⟨us, rfl, all2_ofData hdat hall2⟩
              | agg _ => simp [AV.data] at hdat
              | mb _ _ _ => simp [AV.data] at hdat
            unfold wpOp
            rw [ho1]
            simp only
            rw [if_pos hw]
            left
            unfold Oper.wp
            rcases exec_sound (C := C0) hr0 hgd (fun d' e => by rw [hd1] at e; obtain rfl := Option.some.inj e; exact hdn) hex hob with ⟨v, w', hrun, hrel⟩ | ⟨w', hrun, hrel⟩
            · rw [show (execOp a.eval o).run C.P w = _ from hrun, Oper.upon_value, hd1]; exact fin v w' hrel
            · rw [show (execOp a.eval o).run C.P w = _ from hrun, Oper.upon_skip, hd1]; exact fin undef w' hrel
          · simp at hx
        · simp at hx
      · simp at hx
    · simp at hx
  · simp at hx

/-- an operation that looks alone, or one that makes a slice -/
def xDraw (P : Program) (ops : Array Oper) (fr : Fr) (L : LL) (og ov : Option Orc) (d : Nat) (o : Oper) : Option (AV × List Prop) :=
  match kDraw P ops fr L og ov o with
  | some r => some r
  | none => aDraw P ops fr ov d o

theorem dstOk_spec {n : Nat} {ops : Array Oper} (h : dstOk n ops = true) {k : Nat} {o : Oper} {d : Nat} (ho : ops[k]? = some o) (hd : o.dst = some d) : d < n := by
  unfold dstOk at h
  have := List.all_eq_true.1 h o (List.mem_of_getElem? (by simpa using ho))
  rw [hd] at this
  exact of_decide_eq_true this

def ents3 (P : Program) (ops : Array Oper) (fr0 : Fr) (L : LL) (orcs : List (Nat × Orc)) (cs : List (Nat × List (Option Ty) × AV)) : Nat → List Oper → List (Nat × AV) → Option (List (Nat × AV) × List Prop × List (Nat × List AV × AV))
  | _, [], acc => some (acc, [], [])
  | i, o :: r, acc =>
    match o.dst with
    | some d =>
      match get cs i with
      | some (us, R) =>
        match cDraw ops (pick acc (edgesOf o) ++ fr0) us o with
        | some (f, as, q) =>
          match ents3 P ops fr0 L orcs cs (i + 1) r (acc ++ [(d, R)]) with
          | some (l, obs, calls) => some (l, q :: obs, (f, as, R) :: calls)
          | none => none
        | none => none
      | none =>
        match xDraw P ops (pick acc (edgesOf o) ++ fr0) L (get orcs (2 * i)) (get orcs (2 * i + 1)) d o with
        | some (av, p) =>
          match ents3 P ops fr0 L orcs cs (i + 1) r (acc ++ [(d, av)]) with
          | some (l, obs, calls) => some (l, p ++ obs, calls)
          | none => none
        | none => none
    | none => none

theorem ents3_spec {ops : Array Oper} {fr0 : Fr} {orcs : List (Nat × Orc)} {cs : List (Nat × List (Option Ty) × AV)} : ∀ (l : List Oper) (i : Nat) (acc out : List (Nat × AV)) (obs : List Prop) (calls : List (Nat × List AV × AV)), acc.length = i →
    ents3 C.P ops fr0 L orcs cs i l acc = some (out, obs, calls) → AllP obs → AllD C.P L calls → (∀ k o, l[k]? = some o → ops[i + k]? = some o) → (∀ (k : Nat) (o : Oper) (d : Nat), ops[k]? = some o → o.dst = some d → d < C.n) →
    out.length = i + l.length ∧ (∀ k, k < i → out[k]? = acc[k]?) ∧ ∀ k o, l[k]? = some o → ∃ d av, o.dst = some d ∧ out[i + k]? = some (d, av) ∧ Drawn C ops (i + k) d av (pick (out.take (i + k)) (edgesOf o) ++ fr0) L ∧
      (∀ g b x, av = .mb g b x → ∃ j, o.guard = some (j, b) ∧ guardSlot ops j = some g)
  | [], i, acc, out, obs, calls, hl, h, _, _, _, _ => by
    simp only [ents3, Option.some.injEq, Prod.mk.injEq] at h
    obtain ⟨rfl, _⟩ := h
    exact ⟨by simp [hl], fun _ _ => rfl, fun k o hk => by simp at hk⟩
  | o :: l, i, acc, out, obs, calls, hl, h, ho, hcl, hops, hdn => by
    have fin : ∀ (d : Nat) (av : AV) (l' : List (Nat × AV)) (q : List Prop) (cl : List (Nat × List AV × AV)), o.dst = some d → ents3 C.P ops fr0 L orcs cs (i + 1) l (acc ++ [(d, av)]) = some (l', q, cl) → AllP q → AllD C.P L cl →
        (Drawn C ops i d av (pick acc (edgesOf o) ++ fr0) L ∧ (∀ g b x, av = .mb g b x → ∃ j, o.guard = some (j, b) ∧ guardSlot ops j = some g)) → 
        l'.length = i + (o :: l).length ∧ (∀ k, k < i → l'[k]? = acc[k]?) ∧ ∀ k o', (o :: l)[k]? = some o' → ∃ d av, o'.dst = some d ∧ l'[i + k]? = some (d, av) ∧ Drawn C ops (i + k) d av (pick (l'.take (i + k)) (edgesOf o') ++ fr0) L ∧
          (∀ g b x, av = .mb g b x → ∃ j, o'.guard = some (j, b) ∧ guardSlot ops j = some g) := by
      intro d av l' q cl hd he hq hcl' hdr
      obtain ⟨h1, h2, h3⟩ := ents3_spec l (i + 1) (acc ++ [(d, av)]) l' q cl (by simp [hl]) he hq hcl' (fun k o' hk => by
        have := hops (k + 1) o' (by simpa using hk)
        rwa [show i + (k + 1) = i + 1 + k by omega] at this) hdn
      have hacc : l'.take i = acc := by
        apply List.ext_getElem?
        intro k
        rw [List.getElem?_take]
        split
        · rename_i hk
          rw [h2 k (by omega), List.getElem?_append_left (by omega)]
        · rw [List.getElem?_eq_none (by omega)]
      refine ⟨by rw [h1]; simp; omega, fun k hk => ?_, fun k o' hk => ?_⟩
      · rw [h2 k (by omega), List.getElem?_append_left (by omega)]
      · cases k with
        | zero =>
          simp only [List.getElem?_cons_zero, Option.some.injEq] at hk
          subst hk
          refine ⟨d, av, hd, ?_, ?_, hdr.2⟩
          · rw [Nat.add_zero, h2 i (by omega), List.getElem?_append_right (by omega)]; simp [hl]
          · rw [Nat.add_zero, hacc]; exact hdr.1
        | succ k =>
          obtain ⟨d', av', a1, a2, a3, a4⟩ := h3 k o' (by simpa using hk)
          have e : i + 1 + k = i + (k + 1) := by omega
          rw [e] at a2 a3
          exact ⟨d', av', a1, a2, a3, a4⟩
    have hoi : ops[i]? = some o := by simpa using hops 0 o rfl
    simp only [ents3] at h
    split at h
    · rename_i d hd
      split at h
      · rename_i us R hcs
        split at h
        · rename_i f as q hcd
          split at h
          · rename_i l' obs' calls' he
            simp only [Option.some.injEq, Prod.mk.injEq] at h
            obtain ⟨rfl, rfl, rfl⟩ := h
            obtain ⟨hq1, hq2⟩ := AllP.cons' ho
            obtain ⟨⟨hfn, hR, σ, as0, Lin, e0, hF, hL, hk⟩, hcl2⟩ := hcl
            subst e0
            exact fin d R _ _ _ hd he hq2 hcl2 ⟨cDrawL_drawn σ hoi hd hcd hq1 hfn hF hL (by rw [hk, hR]; rfl), fun g b x e => by subst e; simp [AV.data] at hR⟩
          · simp at h
        · simp at h
      · split at h
        · rename_i av p hk
          split at h
          · rename_i l' obs' calls' he
            simp only [Option.some.injEq, Prod.mk.injEq] at h
            obtain ⟨rfl, rfl, rfl⟩ := h
            obtain ⟨hq1, hq2⟩ := ho.append
            unfold xDraw at hk
            split at hk
            · rename_i hk0
              obtain rfl := Option.some.inj hk
              exact fin d av _ _ _ hd he hq2 hcl (kDraw_drawn hoi hd hk0 hq1)
            · obtain ⟨h5, h6⟩ := aDraw_drawn (L := L) hoi hd (hdn i o d hoi hd) hk hq1
              exact fin d av _ _ _ hd he hq2 hcl ⟨h5, fun g b x e => by subst e; simp [AV.data] at h6⟩
          · simp at h
        · simp at h
    · simp at h

theorem W_draw5 {B : Code} {p : List Nat} {Q : Post} {fr' : Fr} {L' : LL} (m : Nat) (late : List Nat) (orcs : List (Nat × Orc)) (cs : List (Nat × List (Option Ty) × AV)) (kF kL : List Nat) {out : List (Nat × AV)} {obs obs2 : List Prop} {calls : List (Nat × List AV × AV)} (hdr : isDraw (nav B p) = true)
    (hm : C.P.follows .mixedOrders = true) (hok : (drawOkL (opsOf (nav B p)) m late && dstOk C.n (opsOf (nav B p)) && once fr) = true)
    (he : ents3 C.P (opsOf (nav B p)) (baseFr (opsOf (nav B p)) m fr) L orcs cs 0 ((opsOf (nav B p)).toList.take m) [] = some (out, obs, calls)) (ho : AllP obs) (hc : AllD C.P L calls)
    (htail : (match run C.P (opsOf (nav B p)) orcs m ((opsOf (nav B p)).toList.drop m) (out ++ baseFr (opsOf (nav B p)) m fr) L with | some (f, l, ob) => (restr kF kL f l).map fun r => (r.1, r.2, ob) | none => none) = some (fr', L', obs2)) (ho2 : AllP obs2)
    (hn : Q .normal fr' L') : W C (nav B p) Q fr L := by
  obtain ⟨h1, _, h3⟩ := ents3_spec _ 0 [] out obs calls rfl he ho hc (fun k o hk => by
    rw [Nat.zero_add]
    have : k < m := by
      have := (List.getElem?_eq_some_iff.1 hk).1
      simp at this; omega
    rw [List.getElem?_take_of_lt this] at hk
    simpa using hk) (fun k o d hk hd => by
    simp only [Bool.and_eq_true] at hok
    exact dstOk_spec hok.1.2 hk hd)
  have hmle : m ≤ (opsOf (nav B p)).size := by
    simp only [Bool.and_eq_true] at hok
    exact (drawOkL_parts hok.1.1).1
  refine W_drawL m late orcs kF kL hdr hm hok (by rw [h1]; simp; omega) (fun i o hi hoi => ?_) htail ho2 hn
  have := h3 i o (by rw [List.getElem?_take_of_lt hi]; simpa using hoi)
  simpa using this
end
end Go.Sl

/- What slices.Grow does with a nil slice: its room, its beginning, zeros behind it, and a slice of one's own cut shorter. -/
namespace Go.Sl
open Go
section
variable {C : Ctx} {fr : Fr} {L : LL} {Q : Post}

/-- one operation, by what the machine does -/
theorem WO_step {ops : Array Oper} {i j : Nat} {o : Oper} {fr' : Fr} {L' : LL} (hj : j = i + 1) (ho : ops[i]? = some o) (hg : o.guard = none)
    (hrun : ∀ (h : Heap) (ρ : Nat → Value) (a : Act) (w : World), RelH C h ρ fr L a w → ∃ v w', (execOp a.eval o).run C.P w = .ok (.value v) w' ∧ Rel C fr' L' (a.put o.dst v) w')
    (hn : WO C ops j Q fr' L') : WO C ops i Q fr L := by
  intro a w ⟨h, ρ, hr⟩
  have hlen : i < ops.toList.length := by
    have := (Array.getElem?_eq_some_iff.1 ho).1; simpa using this
  have hdrop : ops.toList.drop i = o :: ops.toList.drop j := by
    rw [hj, ← List.getElem_cons_drop hlen]
    congr 1
    have := (Array.getElem?_eq_some_iff.1 ho).2
    simpa using this
  obtain ⟨v, w', hv, hrel⟩ := hrun h ρ a w hr
  rw [hdrop]
  refine wpList_step fun K hK => ?_
  rw [if_pos (by simp [Region.wanted, hg])]
  unfold Oper.wp
  rw [hv, Oper.upon_value]
  exact hK _ _ (hn _ _ hrel)

def gDo (P : Program) (n : Nat) (fr : Fr) (L : LL) (o : Oper) : Option (Fr × LL × Prop) :=
  match o.guard, o.dst, o.op with
  | none, some d, .call c =>
    if d < n then
      match c.callee, c.args.toList, c.argTypes.toList with
      | .builtin .cap, [x], [t] =>
        match P.underlying t, evS fr none x with
        | some (.slice _), some (.one .nilS) => some (putF fr d (.one (ci 0)), L, True)
        | _, _ => none
      | .builtin .append, [s, x], [t, t2] =>
        match P.underlying t, P.underlying t2, evS fr none s, evS fr none x with
        | some (.slice e), some (.int _), some (.one .nilS), some (.one (.dat (.int _) m)) =>
          match tyAt P e, zeroSV P e with
          | some u, some cs => if elemOk P e u ∧ isZero u cs ∧ nameOk d then some (putF (killF d fr) d (.one (.slc d)), newL d (.seq u (List.replicate m.toNat (zeroOf u))) L, 0 ≤ m ∧ SmallLen m) else none
          | _, _ => none
        | _, _, _, _ => none
      | _, _, _ => none
    else none
  | none, some d, .slice t x none (some hi) none =>
    if d < n then
      match P.underlying t, evS fr none x, iOf (evS fr none hi) with
      | some (.slice e), some (.one .nilS), some k => if k = 0 ∧ (P.info? e).isSome then some (putF fr d (.one .nilS), L, True) else none
      | some (.slice e), some (.one (.slc s)), some k =>
        match get L s with
        | some (.seq u xs) => if nameOk s ∧ (P.info? e).isSome then some (putF (killF s fr) d (.one (.slc s)), newL s (.seq u (xs.take k.toNat)) L, 0 ≤ k ∧ k ≤ List.length xs) else none
        | _ => none
      | _, _, _ => none
    else none
  | _, _, _ => none

def gAt (P : Program) (n : Nat) (ops : Array Oper) (i : Nat) (kF kL : List Nat) (fr : Fr) (L : LL) : Option (Fr × LL × Prop) :=
  match ops[i]? with
  | some o => match gDo P n fr L o with
    | some (f, l, p) => (restr kF kL f l).map fun r => (r.1, r.2, p)
    | none => none
  | none => none

theorem zeroCells_made (z : Array Value) (n : Nat) : Builtin.zeroCells z n = madeCells z (n * z.size) := rfl

theorem run_append_zeros {P : Program} {w : World} {t tn ty e : TypeId} {i : TypeInfo} {z : Value} {k kn : IntKind} (ht : P.underlying t = some (.slice e)) (htn : P.underlying tn = some (.int kn)) (hi : P.info? e = some i) (hz : i.zero = some z)
    {n : Nat} (h0 : 0 < n) (hs : 0 < i.size) (h63 : (n : Int) ≤ 9223372036854775807) (h48 : n * i.bytes ≤ 140737488355328) :
    (Builtin.append_ #[t, tn] ty #[.slice none 0 0, .int k n]).run P w =
      .ok (.slice (some ⟨w.heap.size, 0, none⟩) n (grownCap w n 0 e)) (w.drew.alloc (.cells (Builtin.zeroCells z.cells n ++ Builtin.zeroCells z.cells (grownCap w n 0 e - n)) e)) := by
  have hn : n ≠ 0 := by omega
  have hw : IntKind.i64.wrap (n : Int) = n := by rw [IntKind.wrap_i64]; omega
  have h63' : ¬ (9223372036854775807 < (n : Int)) := by omega
  have hfit := growslice_fits (need := n) (old := 0) h0 h48
  have h48' : ¬ (281474976710656 < Builtin.nextslicecap n 0 * i.bytes) := by omega
  have h48i : ¬ (281474976710656 < (n : Int) * (i.bytes : Int)) := by
    rw [← Int.natCast_mul]
    omega
  have hneg : ¬ ((n : Int) < 0) := by omega
  have hns : ¬ (n * i.size = 0) := Nat.mul_ne_zero hn (by omega)
  simp [Builtin.append_, run_underlying' ht, run_underlying' htn, sizeOf, typeInfo, zeroValue, hi, hz, asInt, asIntOf, hw, hn, hneg, hns, h63', h48', h48i, Question.forced, Builtin.firstCells, newRow, grownCap]

theorem run_append_zeros0 {P : Program} {w : World} {t tn ty e : TypeId} {i : TypeInfo} {k kn : IntKind} (ht : P.underlying t = some (.slice e)) (htn : P.underlying tn = some (.int kn)) (hi : P.info? e = some i) :
    (Builtin.append_ #[t, tn] ty #[.slice none 0 0, .int k 0]).run P w = .ok (.slice none 0 0) w := by
  have hw : IntKind.i64.wrap (0 : Int) = 0 := by rw [IntKind.wrap_i64]; rfl
  simp [Builtin.append_, run_underlying' ht, run_underlying' htn, sizeOf, typeInfo, hi, asInt, asIntOf, hw]

theorem madeCells_app (z : Array Value) (a b : Nat) : madeCells z (a * z.size) ++ madeCells z (b * z.size) = madeCells z ((a + b) * z.size) := by
  apply Array.ext_getElem?
  intro j
  unfold madeCells
  rw [Array.getElem?_append]
  simp only [Array.size_map, Array.size_range, Array.getElem?_map]
  split
  · rename_i h
    rw [Array.getElem?_eq_getElem (by simpa using h), Array.getElem?_eq_getElem (by simp [Nat.add_mul]; omega)]
    simp
  · rename_i h
    by_cases h2 : j < (a + b) * z.size
    · rw [Array.getElem?_eq_getElem (by simp [Nat.add_mul] at h2 ⊢; omega), Array.getElem?_eq_getElem (by simpa using h2)]
      simp
      congr 1
      have : j = (j - a * z.size) + z.size * a := by have hc := Nat.mul_comm z.size a; omega
      conv => rhs; rw [this, Nat.add_mul_mod_self_left]
    · rw [Array.getElem?_eq_none (by simp [Nat.add_mul] at h2 ⊢; omega), Array.getElem?_eq_none (by simpa using h2)]

theorem gDo_sound {o : Oper} {fr' : Fr} {L' : LL} {p : Prop} (hs : gDo C.P C.n fr L o = some (fr', L', p)) (hp : p) : o.guard = none ∧ ∀ (h : Heap) (ρ : Nat → Value) (a : Act) (w : World), RelH C h ρ fr L a w →
    ∃ v w', (execOp a.eval o).run C.P w = .ok (.value v) w' ∧ Rel C fr' L' (a.put o.dst v) w' := by
  unfold gDo at hs
  split at hs
  · rename_i d c hgd hdst hop
    refine ⟨hgd, fun h ρ a w hr => ?_⟩
    have hev : ∀ x y, evS fr none x = some y → VRel h ρ a.tmps y (a.eval x) ∧ y.sure = true := fun x y hy => evS_sound hr.fr (fun _ _ e => by cases e) hy
    split at hs
    · rename_i hdn
      split at hs
      · rename_i x t hcal hargs hts
        have ha' : c.args = #[x] := by rw [← Array.toList_inj]; simpa using hargs
        have ht' : c.argTypes = #[t] := by rw [← Array.toList_inj]; simpa using hts
        split at hs
        · rename_i e hu hx
          simp only [Option.some.injEq, Prod.mk.injEq] at hs
          obtain ⟨rfl, rfl, rfl⟩ := hs
          have hv : a.eval x = .slice none 0 0 := (hev _ _ hx).1
          refine ⟨.int .i64 0, w, ?_, ?_⟩
          · simp only [execOp, hop, resolve, hcal, ha', ht']
            simp [invoke, builtin, Builtin.cap_, run_underlying' hu, hv, goInt]
          · rw [hdst]
            exact ⟨h, ρ, hr.putSlot d _ _ hdn vrel_int⟩
        · simp at hs
      · rename_i s x t t2 hcal hargs hts
        have ha' : c.args = #[s, x] := by rw [← Array.toList_inj]; simpa using hargs
        have ht' : c.argTypes = #[t, t2] := by rw [← Array.toList_inj]; simpa using hts
        split at hs
        · rename_i el kn k m hu hu2 hsv hxv
          split at hs
          · rename_i u cs htu hcs
            split at hs
            · rename_i hcond
              obtain ⟨hok, hzero, hnm⟩ := hcond
              simp only [Option.some.injEq, Prod.mk.injEq] at hs
              obtain ⟨rfl, rfl, rfl⟩ := hs
              obtain ⟨h0, hsm⟩ := hp
              unfold SmallLen at hsm
              have hv : a.eval s = .slice none 0 0 := (hev _ _ hsv).1
              have hv2 : a.eval x = .int k m := (repV_int (h := h) (k := k) (n := m)).1 (hev _ _ hxv).1
              obtain ⟨inf, z, hi, hisz, hpos, hby, hz, hzs⟩ := elemOk_spec hok
              obtain ⟨inf', z', hi', hz', hall, _⟩ := zeroSV_spec hcs
              rw [hi] at hi'
              obtain rfl := Option.some.inj hi'
              rw [hz] at hz'
              obtain rfl := Option.some.inj hz'
              have fin : ∀ r w', (Builtin.append_ #[t, t2] o.type #[.slice none 0 0, .int k m]).run C.P w = .ok r w' → r.oneCell' = true → hdrOf r = r → RelH C h (upd ρ d r) (killF d fr) (newL d (.seq u (List.replicate m.toNat (zeroOf u))) L) a w' →
                  ∃ v w', (execOp a.eval o).run C.P w = .ok (.value v) w' ∧ Rel C (putF (killF d fr) d (.one (.slc d))) (newL d (.seq u (List.replicate m.toNat (zeroOf u))) L) (a.put o.dst v) w' := by
                intro r w' hrun h1 hr0 hrel
                refine ⟨r, w', ?_, ?_⟩
                · simp only [execOp, hop, resolve, hcal, ha', ht']
                  simp [invoke, builtin, hv, hv2, hrun]
                · rw [hdst]
                  exact ⟨_, _, hrel.putSlot d _ _ hdn ⟨by simp [upd, hr0], h1⟩⟩
              have aux : ∀ q : Int, 0 ≤ q → q ≤ 4294967296 → q = (q.toNat : Int) ∧ q.toNat ≤ 4294967296 := fun q h1 h2 => by omega
              obtain ⟨hm, hm4⟩ := aux m h0 hsm
              by_cases hz0 : m.toNat = 0
              · have hm0 : m = (0 : Int) := by rw [hm, hz0]; rfl
                subst hm0
                refine fin _ _ (run_append_zeros0 hu hu2 hi) rfl rfl ?_
                exact hr.fresh_name d hnm _ _ _ rfl rfl rfl (Nat.le_refl _) none (fun b hb => by cases hb) (fun _ _ _ => rfl) (.inl ⟨rfl, rfl⟩) (fun b hb => by simp [Blk] at hb) (fun _ b hb => by simp [Blk] at hb)
              · have hb48 : m.toNat * inf.bytes ≤ 140737488355328 := Nat.le_trans (Nat.mul_le_mul hm4 hby) (by decide)
                have hrun := run_append_zeros (P := C.P) (w := w) (ty := o.type) (k := k) hu hu2 hi hz (n := m.toNat) (by omega) (by omega) (by omega) hb48
                rw [← hm] at hrun
                refine fin _ _ hrun rfl rfl ?_
                have hge := grownCap_ge w m.toNat 0 el
                have hlen : (List.replicate m.toNat (zeroOf u)).length = m.toNat := by simp
                have hcells : Builtin.zeroCells z.cells m.toNat ++ Builtin.zeroCells z.cells (grownCap w m.toNat 0 el - m.toNat) = madeCells z.cells (grownCap w m.toNat 0 el * z.cells.size) := by
                  rw [zeroCells_made, zeroCells_made, madeCells_app]
                  congr 2; omega
                rw [hcells]
                have := hr.newRow d hnm u (List.replicate m.toNat (zeroOf u)) (grownCap w m.toNat 0 el) (madeCells z.cells (grownCap w m.toNat 0 el * z.cells.size)) el w.drew rfl rfl rfl rfl (by simp [madeCells, hzs]) (by simpa using hge)
                  (by simp only [List.length_replicate]; unfold maxSl; omega) ?_
                · rw [hlen] at this; exact this
                · intro k' x' hx'
                  rw [List.getElem?_replicate] at hx'
                  split at hx'
                  · rename_i hk
                    obtain rfl := Option.some.inj hx'
                    rw [hzs, cut_made hzs (by omega)]
                    exact isZero_sound u cs _ (hall h ρ) hzero
                  · simp at hx'
            · simp at hs
          · simp at hs
        · simp at hs
      · simp at hs
    · simp at hs
  · rename_i d t x hi hgd hdst hop
    refine ⟨hgd, fun h ρ a w hr => ?_⟩
    have hev : ∀ x y, evS fr none x = some y → VRel h ρ a.tmps y (a.eval x) ∧ y.sure = true := fun x y hy => evS_sound hr.fr (fun _ _ e => by cases e) hy
    split at hs
    · rename_i hdn
      split at hs
      · rename_i e k hu hx hk
        split at hs
        · rename_i hc
          obtain ⟨rfl, hinf⟩ := hc
          simp only [Option.some.injEq, Prod.mk.injEq] at hs
          obtain ⟨rfl, rfl, rfl⟩ := hs
          obtain ⟨inf, hinf⟩ := Option.isSome_iff_exists.1 hinf
          have hv : a.eval x = .slice none 0 0 := (hev _ _ hx).1
          obtain ⟨kk, hkk⟩ := Good.iOf (h := h) (ρ := ρ) (tm := a.tmps) (fun z hz => hev _ z hz) hk
          refine ⟨.slice none 0 0, w, ?_, ?_⟩
          · simp only [execOp, hop, Option.map_none, Option.map_some, hv, hkk]
            simp only [Instr.sliceAt, Instr.slice, Sem.run_bind, run_underlying' hu, Result.andThen_ok]
            rw [run_sliceBounds2 (P := C.P) (w := w) 0 0 none (some (.int kk 0)) 0 0 (.inl ⟨rfl, rfl⟩) (.inr ⟨kk, rfl⟩) (by omega) (by omega) (by omega)]
            simp [sizeOf, typeInfo, hinf]
          · rw [hdst]
            exact ⟨h, ρ, hr.putSlot d _ _ hdn rfl⟩
        · simp at hs
      · rename_i e s k hu hx hk
        split at hs
        · rename_i u xs hg
          split at hs
          · rename_i hc
            obtain ⟨hnm, hinf⟩ := hc
            simp only [Option.some.injEq, Prod.mk.injEq] at hs
            obtain ⟨rfl, rfl, rfl⟩ := hs
            obtain ⟨h0, h1⟩ := hp
            obtain ⟨inf, hinf⟩ := Option.isSome_iff_exists.1 hinf
            have hv : a.eval x = ρ s := (hev _ _ hx).1.1.trans (seq_hdr (hr.objs _ _ hg)).1
            obtain ⟨kk, hkk⟩ := Good.iOf (h := h) (ρ := ρ) (tm := a.tmps) (fun z hz => hev _ z hz) hk
            have hlt : (xs.take k.toNat).length = k.toNat := by simp; omega
            rcases hr.objs _ _ hg with ⟨hrr, hx0⟩ | ⟨b, cap, cur, ell, hrr, h1', h2, h3, h4, h5, h6, h7⟩
            · subst hx0
              have hk0 : k = 0 := by simp at h1; omega
              subst hk0
              refine ⟨.slice none 0 0, w, ?_, ?_⟩
              · simp only [execOp, hop, Option.map_none, Option.map_some, hv, hrr, hkk]
                simp only [Instr.sliceAt, Instr.slice, Sem.run_bind, run_underlying' hu, Result.andThen_ok]
                rw [run_sliceBounds2 (P := C.P) (w := w) 0 0 none (some (.int kk 0)) 0 0 (.inl ⟨rfl, rfl⟩) (.inr ⟨kk, rfl⟩) (by omega) (by omega) (by omega)]
                simp [sizeOf, typeInfo, hinf]
              · rw [hdst]
                refine ⟨h, _, (hr.fresh_name s hnm (.slice none 0 0) (.seq u (List.take 0 [])) w rfl rfl rfl (Nat.le_refl _) none (fun b hb => by cases hb) (fun _ _ _ => rfl) (.inl ⟨rfl, rfl⟩) (fun b hb => by simp [Blk] at hb) (fun _ b hb => by simp [Blk] at hb)).putSlot d _ _ hdn ⟨by simp [upd]; rfl, rfl⟩⟩
            · refine ⟨.slice (some ⟨b, 0, none⟩) k.toNat cap, w, ?_, ?_⟩
              · simp only [execOp, hop, Option.map_none, Option.map_some, hv, hrr, hkk]
                simp only [Instr.sliceAt, Instr.slice, Sem.run_bind, run_underlying' hu, Result.andThen_ok]
                rw [run_sliceBounds2 (P := C.P) (w := w) (List.length xs) cap none (some (.int kk k)) 0 k (.inl ⟨rfl, rfl⟩) (.inr ⟨kk, rfl⟩) (by omega) (by omega) (by omega)]
                simp [sizeOf, typeInfo, hinf, Addr.add]
              · rw [hdst]
                refine ⟨h, _, (hr.fresh_name s hnm (.slice (some ⟨b, 0, none⟩) k.toNat cap) (.seq u (xs.take k.toNat)) w rfl rfl rfl (Nat.le_refl _) (some b) ?_ (fun _ _ _ => rfl) ?_ ?_ ?_ (hBd := fun _ _ => .inl rfl)).putSlot d _ _ hdn ⟨by simp [upd]; rfl, rfl⟩⟩
                · intro b' hb'
                  obtain rfl := Option.some.inj hb'
                  exact ⟨h1', h2, fun s' o' hne hg' hbl => hr.apart s s' _ o' b (fun e => hne e.symm) hg hg' (by rw [hrr]; rfl) hbl⟩
                · refine .inr ⟨b, cap, cur, ell, by rw [hlt], h1', h2, h3, h4, by rw [hlt]; omega, by rw [hlt]; omega, ?_⟩
                  intro i' x' hx'
                  rw [List.getElem?_take] at hx'
                  split at hx'
                  · exact h7 i' x' hx'
                  · simp at hx'
                · intro b' hb' s' o' hne hg' hbl
                  simp [Blk] at hb'
                  subst hb'
                  exact hr.apart s s' _ o' b (fun e => hne e.symm) hg hg' (by rw [hrr]; rfl) hbl
                · intro hlt' b' hb'
                  simp [Blk] at hb'
                  subst hb'
                  exact hr.low s _ b hg hlt' (by rw [hrr]; rfl)
          · simp at hs
        · simp at hs
      · simp at hs
    · simp at hs
  · simp at hs

theorem WO_g {ops : Array Oper} {i j : Nat} {fr' : Fr} {L' : LL} {p : Prop} (kF kL : List Nat) (hj : j = i + 1) (h : gAt C.P C.n ops i kF kL fr L = some (fr', L', p)) (hp : p) (hn : WO C ops j Q fr' L') : WO C ops i Q fr L := by
  unfold gAt at h
  split at h
  · rename_i o ho
    split at h
    · rename_i f l q hd
      obtain ⟨⟨f', l'⟩, hre, he⟩ := Option.map_eq_some_iff.1 h
      simp only [Prod.mk.injEq] at he
      obtain ⟨rfl, rfl, rfl⟩ := he
      obtain ⟨hg, hrun⟩ := gDo_sound hd hp
      refine WO_step hj ho hg (fun h ρ a w hr => ?_) hn
      obtain ⟨v, w', hv, hrel⟩ := hrun h ρ a w hr
      exact ⟨v, w', hv, hrel.keep (restr_spec hre).1 (restr_spec hre).2⟩
    · simp at h
  · simp at h
end
end Go.Sl

/- An object under another name. -/
namespace Go.Sl
open Go
def SV.rn (s t : Nat) : SV → SV
  | .slc r => if r = s then .slc t else .slc r
  | x => x
def AV.rn (s t : Nat) : AV → AV
  | .one x => .one (x.rn s t)
  | .agg cs => .agg (cs.map (SV.rn s t))
  | .tup cs => .tup (cs.map (SV.rn s t))
  | .mb g b x => .mb g b (x.rn s t)
def LObj.rn (s t : Nat) : LObj → LObj
  | .cells cs => .cells (cs.map (SV.rn s t))
  | o => o
def rnOk (L : LL) (s t : Nat) : Bool :=
  match get L s with
  | some (.seq _ _) | some (.map _ _ _) => decide (s < 1000) && nameOk t && !(s == t)
  | _ => false
def rnT (fr : Fr) (L : LL) (s t : Nat) : Fr × LL :=
  match get L s with
  | some o => (mapv (AV.rn s t) (killF t fr), mapv (LObj.rn s t) (newL t o (del L s)))
  | none => (fr, L)

theorem SRel.rn {h : Heap} {ρ : Nat → Value} {s t : Nat} (hst : ρ t = ρ s) {x : SV} {v : Value} (e : SRel h ρ x v) : SRel h ρ (x.rn s t) v := by
  cases x <;> simp only [SV.rn] <;> try exact e
  split
  · rename_i hr; subst hr
    obtain ⟨e1, e2⟩ := e
    exact ⟨by rw [hst]; exact e1, e2⟩
  · exact e
theorem all2_rn {h : Heap} {ρ : Nat → Value} {s t : Nat} (hst : ρ t = ρ s) : ∀ {l : List SV} {m : List Value}, All2 (SRel h ρ) l m → All2 (SRel h ρ) (l.map (SV.rn s t)) m
  | _, _, .nil => .nil
  | _, _, .cons h r => .cons (h.rn hst) (all2_rn hst r)
theorem VRel.rn {h : Heap} {ρ : Nat → Value} {tm : Array Value} {s t : Nat} (hst : ρ t = ρ s) {x : AV} {v : Value} (e : VRel h ρ tm x v) : VRel h ρ tm (x.rn s t) v := by
  cases x <;> simp only [AV.rn, VRel] at e ⊢
  · exact e.rn hst
  · obtain ⟨vs, rfl, hf⟩ := e; exact ⟨vs, rfl, all2_rn hst hf⟩
  · obtain ⟨vs, rfl, hf⟩ := e; exact ⟨vs, rfl, all2_rn hst hf⟩
  · exact fun ht => (e ht).rn hst
theorem ORel.rn {own : Nat → Prop} {h : Heap} {ρ : Nat → Value} {w : World} {q : Value} {s t : Nat} (hst : ρ t = ρ s) {o : LObj} (e : ORel own h ρ w q o) : ORel own h ρ w q (o.rn s t) := by
  cases o <;> simp only [LObj.rn] <;> try exact e
  obtain ⟨b, cur, el, rfl, h1, h2, h3, h4, h5⟩ := e
  exact ⟨b, cur, el, rfl, h1, h2, h3, all2_rn hst h4, h5⟩

section
variable {C : Ctx} {a : Act} {w : World}
theorem RelH.rename0 {h : Heap} {ρ : Nat → Value} {fr : Fr} {L : LL} {s t : Nat} {ob : LObj} (hr : RelH C h ρ fr L a w) (hg : get L s = some ob) (hob : ∀ ρ', ORel C.own h ρ w (ρ s) ob → ORel C.own h ρ' w (ρ s) ob) (hs : s < 1000) (hnm : nameOk t = true) (hne : s ≠ t) :
    RelH C h (upd ρ t (ρ s)) (rnT fr L s t).1 (rnT fr L s t).2 a w := by
    have hd : RelH C h ρ fr (del L s) a w := hr.less (fun s' o' e => by
      rw [get_del] at e
      split at e
      · cases e
      · exact e)
    have hobj := hr.objs s _ hg
    have hpl : ORel C.own h (upd ρ t (ρ s)) w (ρ s) ob := hob _ hobj
    have hnew := hd.fresh_name t hnm (ρ s) ob w rfl rfl rfl (Nat.le_refl _) none (fun b hb => by cases hb) (fun _ _ _ => rfl) hpl
      (fun b hb s' o' _ hg' hb' => by
        rw [get_del] at hg'
        split at hg'
        · cases hg'
        · rename_i hss
          exact hr.apart s s' _ o' b hss hg hg' hb hb')
      (fun _ b hb => hr.low s _ b hg hs hb)
    have hst : upd ρ t (ρ s) t = upd ρ t (ρ s) s := by simp [upd, hne]
    unfold rnT
    rw [hg]
    refine { hnew with fr := fun k av hk => ?_, objs := fun k o ho => ?_, apart := fun k k' o o' b hne' ho ho' => ?_, low := fun k o b ho => ?_ }
    · rw [get_mapv] at hk
      obtain ⟨x, hx, rfl⟩ := Option.map_eq_some_iff.1 hk
      exact ⟨(hnew.fr k x hx).1, (hnew.fr k x hx).2.rn hst⟩
    · rw [get_mapv] at ho
      obtain ⟨x, hx, rfl⟩ := Option.map_eq_some_iff.1 ho
      exact (hnew.objs k x hx).rn hst
    · rw [get_mapv] at ho ho'
      obtain ⟨x, hx, rfl⟩ := Option.map_eq_some_iff.1 ho
      obtain ⟨x', hx', rfl⟩ := Option.map_eq_some_iff.1 ho'
      exact hnew.apart k k' x x' b hne' hx hx'
    · rw [get_mapv] at ho
      obtain ⟨x, hx, rfl⟩ := Option.map_eq_some_iff.1 ho
      exact hnew.low k x b hx
theorem RelH.rename {h : Heap} {ρ : Nat → Value} {fr : Fr} {L : LL} {s t : Nat} (hr : RelH C h ρ fr L a w) (hk : rnOk L s t = true) : RelH C h (upd ρ t (ρ s)) (rnT fr L s t).1 (rnT fr L s t).2 a w := by
  unfold rnOk at hk
  split at hk
  · rename_i u xs hg
    simp only [Bool.and_eq_true, decide_eq_true_eq, Bool.not_eq_true', beq_eq_false_iff_ne] at hk
    exact hr.rename0 hg (fun _ e => e) hk.1.1 hk.1.2 hk.2
  · rename_i u v m hg
    simp only [Bool.and_eq_true, decide_eq_true_eq, Bool.not_eq_true', beq_eq_false_iff_ne] at hk
    exact hr.rename0 hg (fun _ e => e) hk.1.1 hk.1.2 hk.2
  · cases hk
theorem Rel.rename {fr : Fr} {L : LL} {s t : Nat} (hr : Rel C fr L a w) (hk : rnOk L s t = true) : Rel C (rnT fr L s t).1 (rnT fr L s t).2 a w := by
  obtain ⟨h, ρ, hr⟩ := hr
  exact ⟨h, _, hr.rename hk⟩
end
section
variable {C : Ctx} {fr : Fr} {L : LL} {Q : Post} {e : Exit}
theorem W_ren {c : Code} (s t : Nat) (h : rnOk L s t = true) (hw : W C c Q (rnT fr L s t).1 (rnT fr L s t).2) : W C c Q fr L := fun a w hr => hw a w (hr.rename h)
theorem WO_ren {ops : Array Oper} {i : Nat} (s t : Nat) (h : rnOk L s t = true) (hw : WO C ops i Q (rnT fr L s t).1 (rnT fr L s t).2) : WO C ops i Q fr L := fun a w hr => hw a w (hr.rename h)
theorem LT_ren (s t : Nat) (h : rnOk L s t = true) (hw : LT C Q e (rnT fr L s t).1 (rnT fr L s t).2) : LT C Q e fr L := fun a w hr => hw a w (hr.rename h)
end
end Go.Sl

/- Regions that draw their order, whose last operations come one behind the other and are walked by the rules of the walk: calls and all. -/
namespace Go.Sl
open Go

/-- from m on: whatever is behind an operation waits for it or for one behind it, or it looks at slots alone and nobody minds it -/
def tailOkT (ops : Array Oper) (m : Nat) : Bool :=
  (List.range ops.size).all fun k => decide (k < m) || ((List.range ops.size).all fun i => decide (i ≤ k) || match ops[i]? with | some o => (edgesOf o).any fun j => decide (k ≤ j) | none => true) ||
    match ops[k]? with
    | some ok => latePure ok && (List.range ops.size).all fun i => decide (i ≤ k) || match ops[i]? with | some o => (edgesOf o).contains k || ok.apart ops o | none => true
    | none => false
def drawOkT (ops : Array Oper) (m : Nat) (late : List Nat) : Bool :=
  decide (m ≤ ops.size) &&
  (ops.toList.zipIdx.all fun p => (edgesOf p.1).all (fun j => decide (j < p.2)) && (match p.1.guard with | some (j, _) => (edgesOf p.1).contains j | none => true) &&
    (if p.2 < m then p.1.dst.isSome else if p.2 = m then (List.range m).all fun j => (edgesOf p.1).contains j || heldL ops m late j else (edgesOf p.1).any fun j => decide (m ≤ j))) &&
  decide (((ops.toList.take m).filterMap (·.dst)).Nodup) && Region.noSelect ops &&
  (late.all fun j => match ops[j]? with
    | some oj => latePure oj && (ops.toList.zipIdx.all fun p => p.2 == j || !(late.contains p.2 || decide (m ≤ p.2)) || (edgesOf p.1).contains j || oj.apart ops p.1)
    | none => false) && tailOkT ops m

section
variable {C : Ctx} {fr : Fr} {L : LL}
theorem normQ_panic {Q : Post} {c a w} (h : lift C (normQ Q) (.panic c) a w) : False := by
  obtain ⟨_, _, _, h, _⟩ := h; cases h
theorem normQ_out {Q : Post} {a w} (h : lift C (normQ Q) .outgrown a w) : False := by
  obtain ⟨_, _, _, h, _⟩ := h; cases h
theorem edges_ltT {ops : Array Oper} {m : Nat} {late : List Nat} (hok : drawOkT ops m late = true) {i : Nat} {o : Oper} (ho : ops[i]? = some o) : (∀ j ∈ edgesOf o, j < i) ∧ (∀ j b, o.guard = some (j, b) → j ∈ edgesOf o) ∧ (i < m → o.dst.isSome = true) ∧ (m = i → ∀ j, j < m → j ∈ edgesOf o ∨ j ∈ late ∨ ∃ k ok, k < m ∧ k ∉ late ∧ ops[k]? = some ok ∧ j ∈ edgesOf ok) ∧ (m < i → ∃ j ∈ edgesOf o, m ≤ j) := by
  unfold drawOkT at hok
  simp only [Bool.and_eq_true] at hok
  obtain ⟨⟨⟨⟨⟨h0, hall⟩, hn⟩, hns⟩, hl⟩, htk⟩ := hok
  have hmem : (o, i) ∈ ops.toList.zipIdx := by
    rw [List.mem_iff_getElem?]
    exact ⟨i, by simp [ho]⟩
  have h := List.all_eq_true.1 hall _ hmem
  simp only [Bool.and_eq_true] at h
  obtain ⟨⟨h1, h2⟩, h3⟩ := h
  refine ⟨fun j hj => by simpa using List.all_eq_true.1 h1 j hj, fun j b hg => ?_, fun hi => ?_, fun hi j hj => ?_, fun hi => ?_⟩
  · rw [hg] at h2; simpa using h2
  · rw [if_pos hi] at h3; exact h3
  · rw [if_neg (by omega), if_pos hi.symm] at h3
    have := List.all_eq_true.1 h3 j (by simpa using hj)
    simp only [Bool.or_eq_true, List.contains_eq_mem, decide_eq_true_eq] at this
    rcases this with h | h5
    · exact .inl h
    · refine .inr ?_
      unfold heldL at h5
      simp only [Bool.or_eq_true, List.contains_eq_mem, decide_eq_true_eq] at h5
      rcases h5 with h5 | h5
      · exact .inl h5
      · obtain ⟨k, hk1, hk2⟩ := List.any_eq_true.1 h5
        simp only [Bool.and_eq_true, Bool.not_eq_true', decide_eq_false_iff_not] at hk2
        obtain ⟨hk2, hk3⟩ := hk2
        split at hk3
        · rename_i ok hok
          exact .inr ⟨k, ok, by simpa using hk1, hk2, hok, by simpa using hk3⟩
        · cases hk3
  · rw [if_neg (by omega), if_neg (by omega)] at h3
    simpa using h3

theorem drawOkT_parts {ops : Array Oper} {m : Nat} {late : List Nat} (hok : drawOkT ops m late = true) : m ≤ ops.size ∧ ((ops.toList.take m).filterMap (·.dst)).Nodup ∧ Region.noSelect ops = true ∧
    (∀ i oi, i ∈ late → ops[i]? = some oi → latePure oi = true ∧ ∀ j oj, ops[j]? = some oj → j ≠ i → (j ∈ late ∨ m ≤ j) → i ∉ edgesOf oj → oi.apart ops oj = true) ∧ tailOkT ops m = true := by
  unfold drawOkT at hok
  simp only [Bool.and_eq_true, decide_eq_true_eq] at hok
  obtain ⟨⟨⟨⟨⟨h0, hall⟩, hn⟩, hns⟩, hl⟩, htk⟩ := hok
  refine ⟨h0, hn, hns, fun i oi hi hoi => ?_, htk⟩
  have := List.all_eq_true.1 hl i hi
  rw [hoi] at this
  simp only [Bool.and_eq_true] at this
  refine ⟨this.1, fun j oj hj hji hjm hno => ?_⟩
  have h2 := List.all_eq_true.1 this.2 (oj, j) (by
    rw [List.mem_iff_getElem?]
    exact ⟨j, by simp [hj]⟩)
  simp only [Bool.or_eq_true, beq_iff_eq, Bool.not_eq_true', Bool.or_eq_false_iff, List.contains_eq_mem, decide_eq_true_eq, decide_eq_false_iff_not] at h2
  rcases h2 with ((h2 | h2) | h2) | h2
  · exact (hji h2).elim
  · rcases hjm with h3 | h3
    · exact (h2.1 h3).elim
    · exact (h2.2 h3).elim
  · exact (hno h2).elim
  · exact h2


theorem draw_tailT {ops : Array Oper} {m : Nat} {Q : Post} (hed : ∀ i o, ops[i]? = some o → ∀ j ∈ edgesOf o, j < i) (htk : tailOkT ops m = true) (hns : Region.noSelect ops = true) :
    ∀ (r : Nat) (k : Nat) (listed : Array Bool) (a : Act) (w : World), ops.size = k + r → m ≤ k → listed.size = ops.size → (∀ i, i < ops.size → listed.getD i false = decide (i < k)) →
      wpList C.P ops (lift C (normQ Q)) (ops.toList.drop k) a w → ∀ fuel, r ≤ fuel → wpAny C.P .any ops (lift C (normQ Q)) fuel listed a w
  | 0, k, listed, a, w, hk, hm, hls, hl, hw, fuel, _ => by
    rw [List.drop_eq_nil_of_le (by simp; omega)] at hw
    have hq : lift C (normQ Q) .normal a w := hw
    have hre : Region.ready .any ops listed = [] := by
      apply List.eq_nil_iff_forall_not_mem.2
      intro i hi
      obtain ⟨h1, h2, _⟩ := mem_ready'.1 hi
      have := hl i h1
      rw [Array.getD_eq_getD_getElem?, Array.getElem?_eq_getElem (by omega)] at this h2
      simp only [Option.getD_some] at this h2
      rw [h2] at this
      have := of_decide_eq_false this.symm
      omega
    cases fuel with
    | zero => exact ⟨hre, hq⟩
    | succ fuel => exact ⟨fun _ => hq, fun i hi => by rw [hre] at hi; cases hi⟩
  | r + 1, k, listed, a, w, hk, hm, hls, hl, hw, fuel + 1, hf => by
    have hklt : k < ops.size := by omega
    have hgk : ops[k]? = some ops[k] := Array.getElem?_eq_getElem hklt
    have hdrop : ops.toList.drop k = ops[k] :: ops.toList.drop (k + 1) := by
      rw [← List.getElem_cons_drop (by simpa using hklt)]; simp
    rw [hdrop] at hw
    have hop0 : wpOp C.P ops (lift C (normQ Q)) k (wpList C.P ops (lift C (normQ Q)) (ops.toList.drop (k + 1))) a w := by
      unfold wpOp
      rw [hgk]
      exact hw
    have hset : ∀ j, j < ops.size → (listed.setIfInBounds k true).getD j false = decide (j < k + 1) := fun j hj => by
      rw [Array.getD_eq_getD_getElem?, Array.getElem?_setIfInBounds]
      by_cases hij : k = j
      · subst hij; simp [hls, hj]
      · rw [if_neg hij]
        have := hl j hj
        rw [Array.getD_eq_getD_getElem?] at this
        rw [this]
        congr 1
        exact propext ⟨fun h => by omega, fun h => by omega⟩
    have hop : wpOp C.P ops (lift C (normQ Q)) k (wpAny C.P .any ops (lift C (normQ Q)) fuel (listed.setIfInBounds k true)) a w :=
      wpOp_mono (fun a' w' h' => draw_tailT hed htk hns r (k + 1) (listed.setIfInBounds k true) a' w' (by omega) (by omega) (by simp [hls]) hset h' fuel (by omega)) hop0
    have hkready : k ∈ Region.ready .any ops listed := by
      refine mem_ready'.2 ⟨hklt, ?_, _, hgk, fun j hj => ?_⟩
      · have := hl k hklt
        rw [Array.getD_eq_getD_getElem?, Array.getElem?_eq_getElem (by omega)] at this ⊢
        simpa using this
      · have hjk := hed _ _ hgk j hj
        rw [hl j (by omega)]; simpa using hjk
    have hge : ∀ i, i < ops.size → listed.getD i true = false → k ≤ i := fun i hi h2 => by
      have := hl i hi
      rw [Array.getD_eq_getD_getElem?, Array.getElem?_eq_getElem (by omega)] at this h2
      simp only [Option.getD_some] at this h2
      rw [h2] at this
      have := of_decide_eq_false this.symm
      omega
    unfold tailOkT at htk
    have htk' := List.all_eq_true.1 htk k (by simpa using hklt)
    simp only [Bool.or_eq_true, decide_eq_true_eq] at htk'
    rcases htk' with (h1 | h1) | h1
    · omega
    · refine ⟨fun he => by (rw [he] at hkready; exact absurd hkready (by simp)), fun i hi => ?_⟩
      obtain ⟨g1, g2, o, ho1, ho2⟩ := mem_ready'.1 hi
      have hki := hge i g1 g2
      have hik : i = k := by
        rcases Nat.eq_or_lt_of_le hki with h3 | h3
        · exact h3.symm
        · have h4 := List.all_eq_true.1 h1 i (by simpa using g1)
          rw [ho1] at h4
          simp only [Bool.or_eq_true, decide_eq_true_eq] at h4
          rcases h4 with h4 | h4
          · omega
          · obtain ⟨j, hj, hjk⟩ := List.any_eq_true.1 h4
            have hjk : k ≤ j := by simpa using hjk
            have hji := hed _ _ ho1 j hj
            have := ho2 j hj
            rw [hl j (by omega)] at this
            have := of_decide_eq_true this
            omega
      subst hik
      exact hop
    · rw [hgk] at h1
      simp only [Bool.and_eq_true] at h1
      obtain ⟨v, hy, hK⟩ := late_yields hgk h1.1 hop (fun c a w hh => normQ_panic hh) (fun ⟨_, _, hh⟩ => normQ_out hh)
      refine wpAny_first hgk (Region.noSelect_spec hns) (fun c a w hh => (normQ_panic hh).elim) fuel listed a w (fun j oj hj hjk hjl hno => ?_) hkready hy hK
      have hjs := (Array.getElem?_eq_some_iff.1 hj).1
      have h4 := List.all_eq_true.1 h1.2 j (by simpa using hjs)
      rw [hj] at h4
      simp only [Bool.or_eq_true, decide_eq_true_eq, List.contains_eq_mem] at h4
      have hkj := hge j hjs hjl
      rcases h4 with h4 | h4 | h4
      · omega
      · exfalso
        obtain ⟨e, he, hee⟩ := List.mem_map.1 h4
        obtain ⟨he1, he2⟩ := List.mem_filter.1 he
        exact hno e (by simpa using he1) he2 hee
      · exact h4
theorem W_drawT0 {B : Code} {p : List Nat} {Q : Post} (m : Nat) (late : List Nat) {out : List (Nat × AV)} (hdr : isDraw (nav B p) = true)
    (hm : C.P.follows .mixedOrders = true) (hok : (drawOkT (opsOf (nav B p)) m late && dstOk C.n (opsOf (nav B p)) && once fr) = true) (houtlen : out.length = m)
    (hent0 : ∀ i o, i < m → (opsOf (nav B p))[i]? = some o → ∃ d av, o.dst = some d ∧ out[i]? = some (d, av) ∧ Drawn C (opsOf (nav B p)) i d av (pick (out.take i) (edgesOf o) ++ baseFr (opsOf (nav B p)) m fr) L ∧
      (∀ g b x, av = .mb g b x → ∃ j, o.guard = some (j, b) ∧ guardSlot (opsOf (nav B p)) j = some g))
    (hn : WO C (opsOf (nav B p)) m Q (out ++ baseFr (opsOf (nav B p)) m fr) L) : W C (nav B p) Q fr L := by
  simp only [Bool.and_eq_true] at hok
  obtain ⟨⟨hok, hdok⟩, honce⟩ := hok
  generalize hops : opsOf (nav B p) = ops at *
  intro a w hr
  cases hc : nav B p <;> simp only [hc, isDraw, Bool.false_eq_true] at hdr
  rename_i id ops' d
  rw [hc] at hops
  simp only [opsOf] at hops
  simp only [Bool.and_eq_true] at hdr
  obtain ⟨hdr, hpl⟩ := hdr
  subst hops hdr
  · obtain ⟨hmle, hnodup, hnosel, hlate, htailok⟩ := drawOkT_parts hok
    have hedge : ∀ i o, ops'[i]? = some o → ∀ j ∈ edgesOf o, j < i := fun i o ho => (edges_ltT hok ho).1
    have hent : ∀ i o, i < m → ops'[i]? = some o → ∃ d av, o.dst = some d ∧ out[i]? = some (d, av) ∧ Drawn C ops' i d av (pick (out.take i) (edgesOf o) ++ baseFr ops' m fr) L ∧
      (∀ g b x, av = .mb g b x → ∃ j, o.guard = some (j, b) ∧ guardSlot ops' j = some g) := hent0
    -- two quiet operations write two slots
    have hdist : ∀ i j d av av', i < m → j < m → out[i]? = some (d, av) → out[j]? = some (d, av') → i = j := by
      intro i j d av av' hi hj h1 h2
      have key : ∀ k, k < m → ∃ o, ops'[k]? = some o ∧ ∃ d av, o.dst = some d ∧ out[k]? = some (d, av) := by
        intro k hk
        refine ⟨ops'[k], Array.getElem?_eq_getElem (by omega), ?_⟩
        obtain ⟨d, av, h1, h2, _⟩ := hent k _ hk (Array.getElem?_eq_getElem (by omega))
        exact ⟨d, av, h1, h2⟩
      have hds : (ops'.toList.take m).filterMap (·.dst) = out.map (·.1) := by
        apply List.ext_getElem?
        intro k
        have hall : ∀ o ∈ ops'.toList.take m, o.dst.isSome = true := by
          intro o ho
          obtain ⟨k, hk, rfl⟩ := List.getElem_of_mem ho
          have hkm : k < m := by simp at hk; omega
          obtain ⟨o', ho', d, av, hd, _⟩ := key k hkm
          have : ops'[k]? = some ops'[k] := Array.getElem?_eq_getElem (by omega)
          rw [this] at ho'
          obtain rfl := Option.some.inj ho'
          simp [hd]
        have hfm : ∀ (l : List Oper), (∀ o ∈ l, o.dst.isSome = true) → l.filterMap (·.dst) = l.map fun o => o.dst.getD 0 := by
          intro l
          induction l with
          | nil => intro _; rfl
          | cons o l ih =>
            intro hl
            have := hl o (by simp)
            cases hod : o.dst with
            | none => rw [hod] at this; simp at this
            | some d => simp [hod, ih (fun x hx => hl x (by simp [hx]))]
        rw [hfm _ hall]
        by_cases hk : k < m
        · obtain ⟨o', ho', d, av, hd, hout⟩ := key k hk
          simp [List.getElem?_take_of_lt hk, ho', hd, hout]
        · rw [List.getElem?_eq_none (by simp; omega), List.getElem?_eq_none (by simp; omega)]
      rw [hds] at hnodup
      have hi' : i < (out.map (·.1)).length := by simp; omega
      have hj' : j < (out.map (·.1)).length := by simp; omega
      have e1 : (out.map (·.1))[i] = d := by
        have : (out.map (·.1))[i]? = some d := by simp [h1]
        rw [List.getElem?_eq_getElem hi'] at this
        exact Option.some.inj this
      have e2 : (out.map (·.1))[j] = d := by
        have : (out.map (·.1))[j]? = some d := by simp [h2]
        rw [List.getElem?_eq_getElem hj'] at this
        exact Option.some.inj this
      exact (List.getElem_inj hnodup).1 (e1.trans e2.symm)
    have hdstin : ∀ i d av, i < m → out[i]? = some (d, av) → d ∈ (ops'.toList.take m).filterMap (·.dst) := by
      intro i d av hi h1
      obtain ⟨d', av', h2, h3, _⟩ := hent i ops'[i] hi (Array.getElem?_eq_getElem (by omega))
      rw [h1] at h3
      simp only [Option.some.injEq, Prod.mk.injEq] at h3
      obtain ⟨rfl, rfl⟩ := h3
      refine List.mem_filterMap.2 ⟨ops'[i], ?_, h2⟩
      rw [List.mem_iff_getElem?]
      exact ⟨i, by rw [List.getElem?_take_of_lt hi]; simp⟩
    -- the quiet phase
    have quiet : ∀ (fuel : Nat) (listed : Array Bool) (a : Act) (w : World), listed.size = ops'.size → (∀ i, m ≤ i → i < ops'.size → listed.getD i false = false) →
        (∀ i o, i < m → ops'[i]? = some o → listed.getD i false = true → ∀ j ∈ edgesOf o, listed.getD j false = true) →
        (∃ h ρ, Half C m (baseFr ops' m fr) L out listed h ρ a w) → ops'.size ≤ fuel + ((List.range ops'.size).filter fun i => listed.getD i false).length → wpAny C.P .any ops' (lift C (normQ Q)) fuel listed a w := by
      intro fuel
      induction fuel with
      | zero =>
        intro listed a w hls htl hdc ⟨h, ρ, hhalf⟩ hcount
        -- all is listed
        have hall : ∀ i, i < ops'.size → listed.getD i false = true := by
          intro i hi
          have hlen : ((List.range ops'.size).filter fun i => listed.getD i false).length = (List.range ops'.size).length := by
            have := List.length_filter_le (fun i => listed.getD i false) (List.range ops'.size)
            simp at this hcount ⊢; omega
          have := List.length_filter_eq_length_iff.1 hlen i (by simpa using hi)
          simpa using this
        have hms : m = ops'.size := by
          rcases Nat.lt_or_ge m ops'.size with hlt | hge
          · have := htl m (Nat.le_refl _) hlt; rw [hall m hlt] at this; cases this
          · omega
        have hrelF := hhalf.frame out (fun x hx => by
          obtain ⟨j, hj, rfl⟩ := List.getElem_of_mem hx
          exact ⟨j, by omega, hall j (by omega), List.getElem?_eq_getElem hj⟩)
        exact draw_tailT hedge htailok hnosel (ops'.size - m) m listed a w (by omega) (Nat.le_refl _) hls (fun i hi => by rw [hall i hi]; symm; exact decide_eq_true (by omega)) (hn a w ⟨h, ρ, hrelF⟩) 0 (by omega)
      | succ fuel ih =>
        intro listed a w hls htl hdc ⟨h, ρ, hhalf⟩ hcount
        by_cases hdone : ∀ i, i < m → listed.getD i false = true
        · -- over to the tail
          have hrelF := hhalf.frame out (fun x hx => by
            obtain ⟨j, hj, rfl⟩ := List.getElem_of_mem hx
            exact ⟨j, by omega, hdone j (by omega), List.getElem?_eq_getElem hj⟩)
          have hlk : ∀ i, i < ops'.size → listed.getD i false = decide (i < m) := by
            intro i hi
            by_cases him : i < m
            · rw [hdone i him]; simp [him]
            · rw [htl i (by omega) hi]; simp [him]
          have hcnt : ((List.range ops'.size).filter fun i => listed.getD i false).length ≤ m := by
            have h1 : (List.range ops'.size).filter (fun i => listed.getD i false) = (List.range ops'.size).filter (fun i => decide (i < m)) := by
              apply List.filter_congr
              intro i hi
              exact hlk i (by simpa using hi)
            rw [h1]
            have h2 : (List.range ops'.size).filter (fun i => decide (i < m)) = List.range m := by
              have : ops'.size = m + (ops'.size - m) := by omega
              rw [this, List.range_add, List.filter_append]
              have e1 : (List.range m).filter (fun i => decide (i < m)) = List.range m := List.filter_eq_self.2 (by simp)
              have e2 : ((List.range (ops'.size - m)).map (m + ·)).filter (fun i => decide (i < m)) = [] := List.filter_eq_nil_iff.2 (by simp)
              rw [e1, e2]; simp
            rw [h2]; simp
          exact draw_tailT hedge htailok hnosel (ops'.size - m) m listed a w (by omega) (Nat.le_refl _) hls hlk (hn a w ⟨h, ρ, hrelF⟩) (fuel + 1) (by omega)
        · -- some quiet operation is still to come
          obtain ⟨i0, hi0, hi0l⟩ : ∃ i, i < m ∧ listed.getD i false = false := by
            simp only [Classical.not_forall, Bool.not_eq_true] at hdone
            obtain ⟨i, hi, hil⟩ := hdone; exact ⟨i, hi, hil⟩
          have gd : ∀ i b, i < ops'.size → listed.getD i b = listed.getD i false := by
            intro i b hi
            rw [Array.getD_eq_getD_getElem?, Array.getD_eq_getD_getElem?, Array.getElem?_eq_getElem (by omega)]; rfl
          have hnonempty : Region.ready .any ops' listed ≠ [] := by
            -- the least one that is not listed
            have hex : ∃ i, i < ops'.size ∧ listed.getD i false = false ∧ ∀ j, j < i → listed.getD j false = true := by
              obtain ⟨k, ⟨hk1, hk2⟩, hk3⟩ := least_of (p := fun i => i < ops'.size ∧ listed.getD i false = false) i0 ⟨by omega, hi0l⟩
              refine ⟨k, hk1, hk2, fun j hj => ?_⟩
              have := hk3 j hj
              cases hq : listed.getD j false with
              | true => rfl
              | false => exact (this ⟨by omega, hq⟩).elim
            obtain ⟨k, hk1, hk2, hk3⟩ := hex
            intro hempty
            have : k ∈ Region.ready .any ops' listed := mem_ready'.2 ⟨hk1, by rw [gd k _ hk1]; exact hk2, ops'[k], Array.getElem?_eq_getElem hk1, fun j hj => hk3 j ((edges_ltT hok (Array.getElem?_eq_getElem hk1)).1 j hj)⟩
            rw [hempty] at this; cases this
          have one : ∀ i, i ∈ Region.ready .any ops' listed → i < m → wpOp C.P ops' (lift C (normQ Q)) i (wpAny C.P .any ops' (lift C (normQ Q)) fuel (listed.setIfInBounds i true)) a w := by
           intro i hi him
           obtain ⟨h1, h2, o, ho1, ho2'⟩ := mem_ready'.1 hi
           rw [gd i _ h1] at h2
           obtain ⟨d, av, hd1, hout, hdrawn, _⟩ := hent i o him ho1
           have hdn : d < C.n := by
             have := List.all_eq_true.1 hdok o (by simpa using Array.mem_of_getElem? ho1)
             rw [hd1] at this; simpa using this
           -- the frame of those that it waits for
           have hrelI := hhalf.frame (pick (out.take i) (edgesOf o)) (fun x hx => by
             obtain ⟨j, hj, hxj⟩ := mem_pick _ _ _ hx
             have hjlt := (edges_ltT hok ho1).1 j hj
             rw [List.getElem?_take_of_lt hjlt] at hxj
             exact ⟨j, by omega, ho2' j hj, hxj⟩)
           -- what becomes of it
           have next : ∀ (h' : Heap) (v : Value) (w' : World), Ext h h' → (∀ frx, RelH C h ρ frx L a w → RelH C h' ρ frx L a w') → VRel h' ρ (a.tmps.setIfInBounds d v) av v → wpAny C.P .any ops' (lift C (normQ Q)) fuel (listed.setIfInBounds i true) (a.put (some d) v) w' := by
             intro h' v w' hext hlift hv
             refine ih (listed.setIfInBounds i true) _ w' (by simp [hls]) ?_ ?_ ?_ ?_
             · intro k hk hk2
               rw [Array.getD_eq_getD_getElem?, Array.getElem?_setIfInBounds, if_neg (by omega), ← Array.getD_eq_getD_getElem?]
               exact htl k hk hk2
             · intro k ok hk hok' hkl j hj
               have old : listed.getD j false = true → (listed.setIfInBounds i true).getD j false = true := by
                 intro hjl
                 rw [Array.getD_eq_getD_getElem?, Array.getElem?_setIfInBounds]
                 split
                 · rename_i hij; subst hij; simp [hls, h1]
                 · rw [← Array.getD_eq_getD_getElem?]; exact hjl
               by_cases hik : i = k
               · subst hik
                 rw [ho1] at hok'
                 obtain rfl := Option.some.inj hok'
                 exact old (ho2' j hj)
               · rw [Array.getD_eq_getD_getElem?, Array.getElem?_setIfInBounds, if_neg hik, ← Array.getD_eq_getD_getElem?] at hkl
                 exact old (hdc k ok hk hok' hkl j hj)
             · refine ⟨h', ρ, ?_, ?_⟩
               · refine { (hlift _ hhalf.rel) with size := by simp [Act.put, hhalf.rel.size], defers := (hlift _ hhalf.rel).defers, fr := fun t x hx => ?_ }
                 obtain ⟨hb1, hb2⟩ := base_spec hx
                 obtain ⟨h3, h4⟩ := (hlift _ hhalf.rel).fr t x hx
                 have hne : d ≠ t := by
                   rintro rfl
                   exact hb1 (hdstin i d av him hout)
                 refine ⟨h3, ?_⟩
                 have : (a.put (some d) v).tmps.getD t undef = a.tmps.getD t undef := by
                   simp [Act.put, Array.getD_eq_getD_getElem?, Array.getElem?_setIfInBounds, hne]
                 rw [this]
                 exact h4.anyTm hb2
               · intro k dk avk hk hkl hko
                 by_cases hik : i = k
                 · subst hik
                   rw [hout] at hko
                   simp only [Option.some.injEq, Prod.mk.injEq] at hko
                   obtain ⟨rfl, rfl⟩ := hko
                   refine ⟨hdn, ?_⟩
                   have : (a.put (some d) v).tmps.getD d undef = v := by simp [Act.put, hhalf.rel.size, hdn]
                   rw [this]; exact hv
                 · rw [Array.getD_eq_getD_getElem?, Array.getElem?_setIfInBounds, if_neg hik, ← Array.getD_eq_getD_getElem?] at hkl
                   obtain ⟨h3, h40⟩ := hhalf.done k dk avk hk hkl hko
                   have h4 := h40.mono hext
                   have hne : d ≠ dk := by
                     rintro rfl
                     exact hik (hdist i k d av avk him hk hout hko)
                   refine ⟨h3, ?_⟩
                   have : (a.put (some d) v).tmps.getD dk undef = a.tmps.getD dk undef := by
                     simp [Act.put, Array.getD_eq_getD_getElem?, Array.getElem?_setIfInBounds, hne]
                   rw [this]
                   cases avk with
                   | mb g b x =>
                     intro ht
                     refine h4 ?_
                     -- the slot that it looks at was written before
                     obtain ⟨dk', avk', e1, e2, _, e4⟩ := hent k ops'[k] hk (Array.getElem?_eq_getElem (by omega))
                     rw [hko] at e2
                     simp only [Option.some.injEq, Prod.mk.injEq] at e2
                     obtain ⟨rfl, rfl⟩ := e2
                     obtain ⟨j, hgd, hgs⟩ := e4 g b x rfl
                     have hjE := (edges_ltT hok (Array.getElem?_eq_getElem (show k < ops'.size by omega))).2.1 j b hgd
                     have hjl := hdc k ops'[k] hk (Array.getElem?_eq_getElem (by omega)) hkl j hjE
                     have hjlt := (edges_ltT hok (Array.getElem?_eq_getElem (show k < ops'.size by omega))).1 j hjE
                     have hgd' : d ≠ g := by
                       intro hdg0
                       unfold guardSlot at hgs
                       obtain ⟨oj, hoj, hdj⟩ := Option.bind_eq_some_iff.1 hgs
                       obtain ⟨dj, avj, f1, f2, _⟩ := hent j oj (by omega) hoj
                       rw [hdj, ← hdg0] at f1
                       rw [← Option.some.inj f1] at f2
                       have := hdist i j d av avj him (by omega) hout f2
                       subst this
                       rw [h2] at hjl; cases hjl
                     have : (a.put (some d) v).tmps[g]? = a.tmps[g]? := by
                       simp [Act.put, Array.getElem?_setIfInBounds, hgd']
                     rw [this] at ht; exact ht
                   | _ => exact h4
             · have : ((List.range ops'.size).filter fun k => (listed.setIfInBounds i true).getD k false).length = ((List.range ops'.size).filter fun k => listed.getD k false).length + 1 := by
                 have hset : ∀ k, k < ops'.size → (listed.setIfInBounds i true).getD k false = (decide (k = i) || listed.getD k false) := by
                   intro k hk
                   rw [Array.getD_eq_getD_getElem?, Array.getElem?_setIfInBounds]
                   by_cases hik : i = k
                   · subst hik; simp [hls, h1]
                   · rw [if_neg hik, ← Array.getD_eq_getD_getElem?]; simp [Ne.symm hik]
                 rw [List.filter_congr (q := fun k => decide (k = i) || listed.getD k false) (fun k hk => hset k (by simpa using hk))]
                 exact count_one ops'.size i (fun k => listed.getD k false) h1 h2
               rw [this]; omega
           exact hdrawn h ρ a w hrelI _ _ (fun h' v w' e1 e2 e3 => next h' v w' e1 (fun frx => e2 frx L (fun _ _ e => e)) e3)
          by_cases hl8 : ∀ i, i < m → listed.getD i false = false → i ∈ late
          · obtain ⟨k, ⟨hk1, hk2⟩, hk3⟩ := least_of (p := fun i => i < m ∧ listed.getD i false = false) i0 ⟨hi0, hi0l⟩
            have hk3' : ∀ j, j < k → listed.getD j false = true := by
              intro j hj
              have := hk3 j hj
              cases hq : listed.getD j false with
              | true => rfl
              | false => exact (this ⟨by omega, hq⟩).elim
            have hkop : ops'[k]? = some ops'[k] := Array.getElem?_eq_getElem (by omega)
            have hkr : k ∈ Region.ready .any ops' listed := mem_ready'.2 ⟨by omega, by rw [gd k _ (by omega)]; exact hk2, ops'[k], hkop, fun j hj => hk3' j ((edges_ltT hok hkop).1 j hj)⟩
            obtain ⟨hlp, hap⟩ := hlate k ops'[k] (hl8 k hk1 hk2) hkop
            obtain ⟨v, hy, hK⟩ := late_yields hkop hlp (one k hkr hk1) (fun c a w hh => normQ_panic hh) (fun ⟨_, _, hh⟩ => normQ_out hh)
            refine wpAny_first hkop (Region.noSelect_spec hnosel) (fun c a w hh => (normQ_panic hh).elim) fuel listed a w (fun j oj hj hjk hjl hno => ?_) hkr hy hK
            have hjs := (Array.getElem?_eq_some_iff.1 hj).1
            rw [gd j _ hjs] at hjl
            refine hap j oj hj hjk ?_ (fun hme => ?_)
            · rcases Nat.lt_or_ge j m with h3 | h3
              · exact .inl (hl8 j h3 hjl)
              · exact .inr h3
            · obtain ⟨e, he, hee⟩ := List.mem_map.1 hme
              obtain ⟨he1, he2⟩ := List.mem_filter.1 he
              exact hno e (by simpa using he1) he2 hee
          · obtain ⟨i1, hi1, hi1l, hi1n⟩ : ∃ i, i < m ∧ listed.getD i false = false ∧ i ∉ late := by
              simp only [Classical.not_forall] at hl8
              obtain ⟨i, x1, x2, x3⟩ := hl8; exact ⟨i, x1, x2, x3⟩
            refine ⟨fun e => (hnonempty e).elim, fun i hi => ?_⟩
            obtain ⟨h1, h2, o, ho1, ho2'⟩ := mem_ready'.1 hi
            refine one i hi ?_
            rcases Nat.lt_or_ge i m with h3 | h3
            · exact h3
            · exfalso
              have h3m : m = i := by
                rcases Nat.lt_or_ge m i with h4 | h4
                · obtain ⟨j, hj, hjm⟩ := (edges_ltT hok ho1).2.2.2.2 h4
                  have hjs := (edges_ltT hok ho1).1 j hj
                  have := ho2' j hj
                  rw [htl j hjm (by omega)] at this; cases this
                · omega
              have all : ∀ d j, m - j ≤ d → j < m → j ∉ late → listed.getD j false = true := by
                intro d
                induction d with
                | zero => intro j h4 h5; omega
                | succ d ihd =>
                  intro j h4 h5 h6
                  rcases (edges_ltT hok ho1).2.2.2.1 h3m j (by omega) with h7 | h7 | ⟨k, ok, k1, k2, k3, k4⟩
                  · exact ho2' j h7
                  · exact (h6 h7).elim
                  · have := (edges_ltT hok k3).1 j k4
                    exact hdc k ok k1 k3 (ihd k (by omega) k1 k2) j k4
              have := all m i1 (by omega) hi1 hi1n
              rw [hi1l] at this; cases this
    refine region_any hpl hm (quiet ops'.size _ a _ (by simp) (fun i _ hi => by simp [Array.getD_eq_getD_getElem?, hi]) (fun i o hi ho hl => ?_) ?_ (by omega))
    · rw [Array.getD_eq_getD_getElem?] at hl
      simp [show i < ops'.size by omega] at hl
    · obtain ⟨h, ρ, hr'⟩ := hr.drawn
      refine ⟨h, ρ, { hr' with fr := base_get (fun p hp => hr'.fr p.1 p.2 (once_get honce hp)) }, fun i d av hi hl => ?_⟩
      rw [Array.getD_eq_getD_getElem?] at hl
      simp [show i < ops'.size by omega] at hl


theorem W_drawT {B : Code} {p : List Nat} {Q : Post} (m : Nat) (late : List Nat) {out : List (Nat × AV)} (hdr : isDraw (nav B p) = true)
    (hm : C.P.follows .mixedOrders = true) (hok : (drawOkT (opsOf (nav B p)) m late && dstOk C.n (opsOf (nav B p)) && once fr) = true) (houtlen : out.length = m)
    (hent0 : ∀ i o, i < m → (opsOf (nav B p))[i]? = some o → ∃ d av, o.dst = some d ∧ out[i]? = some (d, av) ∧ Drawn C (opsOf (nav B p)) i d av (pick (out.take i) (edgesOf o) ++ baseFr (opsOf (nav B p)) m fr) L ∧
      (∀ g b x, av = .mb g b x → ∃ j, o.guard = some (j, b) ∧ guardSlot (opsOf (nav B p)) j = some g))
    (hn : WO C (opsOf (nav B p)) m (normQ Q) (out ++ baseFr (opsOf (nav B p)) m fr) L) : W C (nav B p) Q fr L :=
  W_mono (fun _ _ _ h => h.2) (W_drawT0 (Q := normQ Q) m late hdr hm hok houtlen hent0 hn)
theorem W_drawT5 {B : Code} {p : List Nat} {Q : Post} {fr' : Fr} {L' : LL} (m : Nat) (late : List Nat) (orcs : List (Nat × Orc)) (cs : List (Nat × List (Option Ty) × AV)) (kF kL : List Nat) {out : List (Nat × AV)} {obs : List Prop} {calls : List (Nat × List AV × AV)} (hdr : isDraw (nav B p) = true)
    (hm : C.P.follows .mixedOrders = true) (hok : (drawOkT (opsOf (nav B p)) m late && dstOk C.n (opsOf (nav B p)) && once fr) = true)
    (he : ents3 C.P (opsOf (nav B p)) (baseFr (opsOf (nav B p)) m fr) L orcs cs 0 ((opsOf (nav B p)).toList.take m) [] = some (out, obs, calls)) (ho : AllP obs) (hc : AllD C.P L calls)
    (hk : restr kF kL (out ++ baseFr (opsOf (nav B p)) m fr) L = some (fr', L')) (hn : WO C (opsOf (nav B p)) m (normQ Q) fr' L') : W C (nav B p) Q fr L := by
  obtain ⟨h1, _, h3⟩ := ents3_spec _ 0 [] out obs calls rfl he ho hc (fun k o hk => by
    rw [Nat.zero_add]
    have : k < m := by
      have := (List.getElem?_eq_some_iff.1 hk).1
      simp at this; omega
    rw [List.getElem?_take_of_lt this] at hk
    simpa using hk) (fun k o d hk hd => by
    simp only [Bool.and_eq_true] at hok
    exact dstOk_spec hok.1.2 hk hd)
  have hmle : m ≤ (opsOf (nav B p)).size := by
    simp only [Bool.and_eq_true] at hok
    exact (drawOkT_parts hok.1.1).1
  refine W_drawT m late hdr hm hok (by rw [h1]; simp; omega) (fun i o hi hoi => ?_) (WO_weaken kF kL hk hn)
  have := h3 i o (by rw [List.getElem?_take_of_lt hi]; simpa using hoi)
  simpa using this
end
end Go.Sl

/- Regions that draw their order, some of whose operations make or use up objects of our own, one behind the other. -/
namespace Go.Sl
open Go

def AV.hit (nm : Nat) : AV → Bool
  | .one x => x.has nm
  | .agg cs => cs.any (SV.has nm)
  | .tup cs => cs.any (SV.has nm)
  | .mb _ _ _ => true
def LObj.hit (nm : Nat) : LObj → Bool
  | .cells cs => cs.any (SV.has nm)
  | .rows _ _ _ hs => hs.any fun e => e.2.2.has nm
  | _ => false
theorem kill_list {nm : Nat} : ∀ {cs : List SV}, cs.any (SV.has nm) = false → cs.map (SV.kill nm) = cs
  | [], _ => rfl
  | c :: cs, h => by
    simp only [List.any_cons, Bool.or_eq_false_iff] at h
    rw [List.map_cons, kill_list h.2]
    unfold SV.kill
    rw [if_neg (by simp [h.1])]
theorem AV.kill_none {nm : Nat} {v : AV} (h : v.hit nm = false) : v.kill nm = v := by
  cases v with
  | one x =>
    simp only [AV.hit] at h
    simp only [AV.kill, SV.kill, h, Bool.false_eq_true, if_false]
  | agg cs => simp only [AV.kill, kill_list h]
  | tup cs => simp only [AV.kill, kill_list h]
  | mb g b x => simp [AV.hit] at h
theorem AV.unmb_sure {v : AV} (h : v.sure = true) (d : Nat) : v.unmb d = v := by
  cases v <;> first | rfl | simp [AV.sure] at h
theorem LObj.kill_none {nm : Nat} {o : LObj} (h : o.hit nm = false) : o.kill nm = o := by
  cases o with
  | cells cs => simp only [LObj.kill, kill_list h]
  | rows d t xs hs =>
    simp only [LObj.kill]
    congr 1
    simp only [LObj.hit, List.any_eq_false] at h
    unfold mapHs
    conv => rhs; rw [← List.map_id hs]
    refine List.map_congr_left fun e he => ?_
    have := h e he
    unfold SV.kill
    rw [if_neg this]; rfl
  | _ => rfl
/-- objects behind a step that kills names and lays (or changes) objects -/
def nextL (ns : List Nat) (puts : LL) (L : LL) : LL := puts ++ mapv (fun o => ns.foldr LObj.kill o) (L.filter fun e => !ns.contains e.1)
theorem get_app {α : Type} : ∀ {A B : List (Nat × α)} {s : Nat}, get (A ++ B) s = match get A s with | some o => some o | none => get B s
  | [], _, _ => rfl
  | (k, v) :: A, B, s => by
    simp only [List.cons_append, get]
    split
    · rfl
    · exact get_app
theorem get_filter {ns : List Nat} : ∀ {L : LL} {s : Nat}, get (L.filter fun e => !ns.contains e.1) s = if ns.contains s = true then none else get L s
  | [], _ => by simp [get]
  | (k, v) :: L, s => by
    rw [List.filter_cons]
    by_cases hk : ns.contains k = true
    · simp only [hk, Bool.not_true, Bool.false_eq_true, if_false]
      rw [get_filter]
      by_cases hs : ns.contains s = true
      · rw [if_pos hs, if_pos hs]
      · rw [if_neg hs, if_neg hs, get, if_neg (fun e => by rw [e] at hk; exact hs hk)]
    · have hk' : ns.contains k = false := by simpa using hk
      simp only [hk', Bool.not_false, if_true]
      rw [get, get, get_filter]
      by_cases hks : k = s
      · subst hks; rw [if_pos rfl, if_pos rfl, if_neg hk]
      · rw [if_neg hks, if_neg hks]
theorem get_nextL' {ns : List Nat} {puts L : LL} {s : Nat} : get (nextL ns puts L) s = match get puts s with | some o => some o | none => if ns.contains s = true then none else (get L s).map fun o => ns.foldr LObj.kill o := by
  unfold nextL
  rw [get_app, get_mapv, get_filter]
  cases get puts s with
  | some o => rfl
  | none =>
    simp only
    split <;> rfl
theorem lkills_none : ∀ {ns : List Nat} {o : LObj}, ns.any (fun n => o.hit n) = false → ns.foldr LObj.kill o = o
  | [], _, _ => rfl
  | n :: ns, o, h => by
    simp only [List.any_cons, Bool.or_eq_false_iff] at h
    rw [List.foldr_cons, lkills_none h.2, LObj.kill_none h.1]
theorem akills_none : ∀ {ns : List Nat} {v : AV}, ns.any (fun n => v.hit n) = false → ns.foldr AV.kill v = v
  | [], _, _ => rfl
  | n :: ns, v, h => by
    simp only [List.any_cons, Bool.or_eq_false_iff] at h
    rw [List.foldr_cons, akills_none h.2, AV.kill_none h.1]
theorem get_none_of {α : Type} {L : List (Nat × α)} {s : Nat} (h : L.any (fun e => e.1 == s) = false) : get L s = none := by
  induction L with
  | nil => rfl
  | cons p L ih =>
    obtain ⟨k, v⟩ := p
    simp only [List.any_cons, Bool.or_eq_false_iff, beq_eq_false_iff_ne] at h
    rw [get, if_neg h.1, ih h.2]
theorem get_nextL {ns : List Nat} {puts L : LL} {s : Nat} {o : LObj} (h : get L s = some o) (hn : ns.contains s = false) (hh : ns.any (fun n => o.hit n) = false) (hp : puts.any (fun e => e.1 == s) = false) : get (nextL ns puts L) s = some o := by
  rw [get_nextL', get_none_of hp, hn, h]
  simp only [Bool.false_eq_true, if_false, Option.map_some, lkills_none hh]
theorem get_killFs' {ns : List Nat} {F : Fr} {t : Nat} {v : AV} (h : get F t = some v) (hh : ns.any (fun n => v.hit n) = false) : get (killFs ns F) t = some v := by
  rw [get_killFs, h, Option.map_some, akills_none hh]
theorem get_putF {F : Fr} {d t : Nat} {av v : AV} (h : get F t = some v) (hs : v.sure = true) (hne : t ≠ d) : get (putF F d av) t = some v := by
  unfold putF
  simp only [get]
  rw [if_neg (Ne.symm hne), get_mapv, get_del, if_neg (Ne.symm hne), h, Option.map_some, AV.unmb_sure hs]
theorem get_putF_self {F : Fr} {d : Nat} {av : AV} : get (putF F d av) d = some av := by
  unfold putF
  simp [get]

/-- the steps of the chain: number, names that are used up or laid anew, objects behind it -/
abbrev Chain := List (Nat × List Nat × LL)
def AV.hitAny (ns : List Nat) (v : AV) : Bool := ns.any fun n => v.hit n
def Chain.hits (ch : Chain) (a b : Nat) (v : AV) : Bool := ((ch.drop a).take (b - a)).any fun c => v.hitAny c.2.1
def Chain.start (ch : Chain) (i : Nat) : Nat := match ch.findIdx? (fun c => c.1 == i) with | some q => q + 1 | none => 0
def Chain.at (ch : Chain) (k : Nat) (L : LL) : LL := (ch.take k).foldl (fun L c => nextL c.2.1 c.2.2 L) L
/-- the step that waits for i, or the end -/
def Chain.upto (ch : Chain) (ops : Array Oper) (i : Nat) : Nat := match ch.findIdx? (fun c => c.1 == i || match ops[c.1]? with | some o => (edgesOf o).contains i | none => false) with | some q => q | none => ch.length
def frC (ch : Chain) (out : List (Nat × AV)) (base : Fr) (js : List Nat) (k : Nat) : Fr :=
  (js.filterMap fun j => (out[j]?).bind fun e => if ch.hits (ch.start j) k e.2 then none else some e) ++ base.filter fun e => !ch.hits 0 k e.2
def LLq (ch : Chain) (k : Nat) (L : LL) : LL := L.filter fun e => (ch.take k).all fun c => !c.2.1.contains e.1 && !(c.2.1.any fun n => e.2.hit n) && !(c.2.2.any fun p => p.1 == e.1)

section
variable {C : Ctx} {fr : Fr} {L : LL}
def CStep (C : Ctx) (ops : Array Oper) (i d : Nat) (ns : List Nat) (puts : LL) (av : AV) (frI : Fr) (L : LL) : Prop :=
  ∀ F Lp a w, (∀ p ∈ frI, get F p.1 = some p.2) → (∀ s o, get L s = some o → get Lp s = some o) → Rel C F Lp a w → ∀ (Q : Exit → Act → World → Prop) (K : Act → World → Prop),
    (∀ a' w', Rel C (putF (killFs ns F) d av) (nextL ns puts Lp) a' w' → K a' w') → wpOp C.P ops Q i K a w

theorem Rel.cover {F F' : Fr} {a : Act} {w : World} (hr : Rel C F L a w) (h : ∀ p ∈ F', get F p.1 = some p.2) : Rel C F' L a w := by
  obtain ⟨hh, ρ, hr⟩ := hr
  exact ⟨hh, ρ, { hr with fr := fun t v ht => hr.fr t v (h (t, v) (get_mem _ _ _ ht)) }⟩
theorem chain_at_get {ch : Chain} : ∀ (k : Nat) {L : LL} {s : Nat} {o : LObj}, get L s = some o → (∀ c ∈ ch.take k, c.2.1.contains s = false ∧ c.2.1.any (fun n => o.hit n) = false ∧ c.2.2.any (fun p => p.1 == s) = false) → get (ch.at k L) s = some o := by
  intro k
  unfold Chain.at
  generalize ch.take k = l
  induction l with
  | nil => intro L s o h _; exact h
  | cons c l ih =>
    intro L s o h hc
    rw [List.foldl_cons]
    exact ih (get_nextL h (hc c (by simp)).1 (hc c (by simp)).2.1 (hc c (by simp)).2.2) (fun c' hc' => hc c' (by simp [hc']))
theorem onceL_get {L : LL} (h : (L.map (·.1)).Nodup) {p : Nat × LObj} (hp : p ∈ L) : get L p.1 = some p.2 := by
  induction L with
  | nil => cases hp
  | cons q L ih =>
    obtain ⟨k, v⟩ := q
    simp only [List.map_cons, List.nodup_cons] at h
    rcases List.mem_cons.1 hp with rfl | hp
    · simp [get]
    · have hne : k ≠ p.1 := fun e => h.1 (e ▸ List.mem_map.2 ⟨p, hp, rfl⟩)
      simp only [get]
      rw [if_neg hne]
      exact ih h.2 hp
theorem LLq_cover {ch : Chain} {k K : Nat} (hk : k ≤ K) {L : LL} (h : (L.map (·.1)).Nodup) : ∀ s o, get (LLq ch K L) s = some o → get (ch.at k L) s = some o := by
  intro s o hs
  have hm := get_mem _ _ _ hs
  unfold LLq at hm
  obtain ⟨h1, h2⟩ := List.mem_filter.1 hm
  refine chain_at_get k (onceL_get h h1) (fun c hc => ?_)
  have hc' : c ∈ ch.take K := by
    have : ch.take k = (ch.take K).take k := by rw [List.take_take]; congr 1; omega
    rw [this] at hc
    exact List.mem_of_mem_take hc
  have := List.all_eq_true.1 h2 c hc'
  simp only [Bool.and_eq_true, Bool.not_eq_true'] at this
  exact ⟨this.1.1, this.1.2, this.2⟩
theorem hits_mono {ch : Chain} {a k K : Nat} {v : AV} (hk : k ≤ K) (h : ch.hits a K v = false) : ch.hits a k v = false := by
  unfold Chain.hits at h ⊢
  rw [List.any_eq_false] at h ⊢
  intro c hc
  refine h c ?_
  have : (ch.drop a).take (k - a) = ((ch.drop a).take (K - a)).take (k - a) := by rw [List.take_take]; congr 1; omega
  rw [this] at hc
  exact List.mem_of_mem_take hc
theorem hits_step {ch : Chain} {a k : Nat} {v : AV} {c : Nat × List Nat × LL} (hc : ch[k]? = some c) (ha : a ≤ k) (h : ch.hits a (k + 1) v = false) : ch.hits a k v = false ∧ v.hitAny c.2.1 = false := by
  refine ⟨hits_mono (by omega) h, ?_⟩
  unfold Chain.hits at h
  rw [List.any_eq_false] at h
  have : c ∈ (ch.drop a).take (k + 1 - a) := by
    rw [List.mem_iff_getElem?]
    refine ⟨k - a, ?_⟩
    rw [List.getElem?_take_of_lt (by omega), List.getElem?_drop, show a + (k - a) = k by omega, hc]
  simpa using h c this

/-- what is asked of the chain -/
def chOk (ops : Array Oper) (m : Nat) (ch : Chain) (L : LL) (out : List (Nat × AV)) : Bool :=
  (ch.all fun c => decide (c.1 < m)) &&
  ((List.range ch.length).all fun q => match ch[q]? with
    | some c => ch.start c.1 == q + 1 && (q == 0 || match ch[q - 1]?, ops[c.1]? with | some b, some o => (edgesOf o).contains b.1 | _, _ => false)
    | none => true) &&
  decide ((L.map (·.1)).Nodup) && out.all (fun e => e.2.sure)

/-- variables made beside the chain: number, slot, object -/
abbrev Makers := List (Nat × Nat × LObj)
def mkL (mk : Makers) (listed : Array Bool) : LL := mk.filterMap fun e => if listed.getD e.1 false then some (e.2.1, e.2.2) else none
def mkAll (mk : Makers) : LL := mk.map fun e => (e.2.1, e.2.2)
def mkOk (ops : Array Oper) (m : Nat) (mk : Makers) (ch : Chain) (base : Fr) (L : LL) (out : List (Nat × AV)) : Bool :=
  (mk.all fun e => decide (e.1 < m) && !(L.any fun p => p.1 == e.2.1 || p.2.hit e.2.1) && !(base.any fun p => p.2.hit e.2.1) &&
    (ch.all fun c => !(c.1 == e.1) && !c.2.1.contains e.2.1 && !(c.2.1.any fun n => e.2.2.hit n) && !(c.2.2.any fun p => p.1 == e.2.1 || p.2.hit e.2.1)) &&
    ((List.range m).all fun j => match out[j]?, ops[j]? with | some v, some o => j == e.1 || !v.2.hit e.2.1 || (edgesOf o).contains e.1 | _, _ => true) &&
    (mk.all fun e' => !e'.2.2.hit e.2.1)) && decide ((mk.map (·.2.1)).Nodup) && decide ((mk.map (·.1)).Nodup)

structure MkOk (ops : Array Oper) (m : Nat) (mk : Makers) (ch : Chain) (base : Fr) (L : LL) (out : List (Nat × AV)) : Prop where
  lt : ∀ e ∈ mk, e.1 < m
  cleanL : ∀ e ∈ mk, ∀ p ∈ L, p.1 ≠ e.2.1 ∧ p.2.hit e.2.1 = false
  cleanB : ∀ e ∈ mk, ∀ p ∈ base, p.2.hit e.2.1 = false
  ch1 : ∀ e ∈ mk, ∀ c ∈ ch, c.1 ≠ e.1 ∧ c.2.1.contains e.2.1 = false ∧ c.2.1.any (fun n => e.2.2.hit n) = false ∧ ∀ p ∈ c.2.2, p.1 ≠ e.2.1 ∧ p.2.hit e.2.1 = false
  outs : ∀ e ∈ mk, ∀ (j : Nat) v o, j < m → out[j]? = some v → ops[j]? = some o → j ≠ e.1 → v.2.hit e.2.1 = true → e.1 ∈ edgesOf o
  self : ∀ e ∈ mk, ∀ e' ∈ mk, e'.2.2.hit e.2.1 = false
  nd1 : (mk.map (·.2.1)).Nodup
  nd2 : (mk.map (·.1)).Nodup
theorem mkOk_spec {ops : Array Oper} {m : Nat} {mk : Makers} {ch : Chain} {base : Fr} {L : LL} {out : List (Nat × AV)} (h : mkOk ops m mk ch base L out = true) : MkOk ops m mk ch base L out := by
  unfold mkOk at h
  simp only [Bool.and_eq_true, decide_eq_true_eq] at h
  obtain ⟨⟨h, n1⟩, n2⟩ := h
  have each := fun e (he : e ∈ mk) => List.all_eq_true.1 h e he
  simp only [Bool.and_eq_true, decide_eq_true_eq, Bool.not_eq_true'] at each
  refine ⟨fun e he => (each e he).1.1.1.1.1, fun e he p hp => ?_, fun e he p hp => ?_, fun e he c hc => ?_, fun e he j v o hj hv ho hne hh => ?_, fun e he e' he' => ?_, n1, n2⟩
  · have := List.any_eq_false.1 (each e he).1.1.1.1.2 p hp
    simp only [Bool.or_eq_true, beq_iff_eq, not_or, Bool.not_eq_true] at this
    exact this
  · have := List.any_eq_false.1 (each e he).1.1.1.2 p hp
    simpa using this
  · have := List.all_eq_true.1 (each e he).1.1.2 c hc
    simp only [Bool.and_eq_true, Bool.not_eq_true', beq_eq_false_iff_ne] at this
    obtain ⟨⟨⟨a1, a2⟩, a3⟩, a4⟩ := this
    refine ⟨a1, a2, a3, fun p hp => ?_⟩
    have := List.any_eq_false.1 a4 p hp
    simp only [Bool.or_eq_true, beq_iff_eq, not_or, Bool.not_eq_true] at this
    exact this
  · have := List.all_eq_true.1 (each e he).1.2 j (by simpa using hj)
    rw [hv, ho] at this
    simp only [Bool.or_eq_true, beq_iff_eq, Bool.not_eq_true'] at this
    rcases this with (h1 | h1) | h1
    · exact (hne h1).elim
    · rw [hh] at h1; cases h1
    · simpa using h1
  · have := List.all_eq_true.1 (each e he).2 e' he'
    simpa using this
theorem mkL_mem {mk : Makers} {listed : Array Bool} {s : Nat} {o : LObj} (h : get (mkL mk listed) s = some o) : ∃ e ∈ mk, listed.getD e.1 false = true ∧ e.2.1 = s ∧ e.2.2 = o := by
  have hm := get_mem _ _ _ h
  unfold mkL at hm
  obtain ⟨e, he, hb⟩ := List.mem_filterMap.1 hm
  split at hb
  · rename_i hl
    simp only [Option.some.injEq, Prod.mk.injEq] at hb
    exact ⟨e, he, hl, hb.1, hb.2⟩
  · cases hb
theorem mkL_names {mk : Makers} {listed : Array Bool} : ((mkL mk listed).map (·.1)).Sublist (mk.map (·.2.1)) := by
  unfold mkL
  induction mk with
  | nil => exact List.Sublist.refl _
  | cons e mk ih =>
    rw [List.filterMap_cons]
    split
    · exact List.Sublist.cons _ ih
    · rename_i b hb
      split at hb
      · simp only [Option.some.injEq] at hb
        subst hb
        exact List.Sublist.cons₂ _ ih
      · cases hb
theorem get_mkL {mk : Makers} {listed : Array Bool} (hn : (mk.map (·.2.1)).Nodup) {e : Nat × Nat × LObj} (he : e ∈ mk) (hl : listed.getD e.1 false = true) : get (mkL mk listed) e.2.1 = some e.2.2 := by
  refine onceL_get (p := (e.2.1, e.2.2)) (mkL_names.nodup hn) ?_
  unfold mkL
  exact List.mem_filterMap.2 ⟨e, he, by rw [if_pos hl]⟩
theorem mkL_congr {mk : Makers} {l1 l2 : Array Bool} (h : ∀ e ∈ mk, l1.getD e.1 false = l2.getD e.1 false) : mkL mk l1 = mkL mk l2 := by
  unfold mkL
  induction mk with
  | nil => rfl
  | cons e mk ih =>
    rw [List.filterMap_cons, List.filterMap_cons, h e (by simp), ih (fun e' he' => h e' (by simp [he']))]
theorem mkL_all {mk : Makers} {listed : Array Bool} (h : ∀ e ∈ mk, listed.getD e.1 false = true) : mkL mk listed = mkAll mk := by
  unfold mkL mkAll
  induction mk with
  | nil => rfl
  | cons e mk ih =>
    rw [List.filterMap_cons, List.map_cons, ih (fun e' he' => h e' (by simp [he'])), h e (by simp)]
    rfl
theorem mkL_none {mk : Makers} {listed : Array Bool} (h : ∀ e ∈ mk, listed.getD e.1 false = false) : mkL mk listed = [] := by
  unfold mkL
  induction mk with
  | nil => rfl
  | cons e mk ih =>
    rw [List.filterMap_cons, ih (fun e' he' => h e' (by simp [he'])), h e (by simp)]
    rfl
theorem kill_hit {n d : Nat} {o : LObj} (h : o.hit d = false) : (o.kill n).hit d = false := by
  cases o with
  | cells cs =>
    simp only [LObj.kill, LObj.hit] at h ⊢
    rw [List.any_eq_false] at h ⊢
    intro x hx
    obtain ⟨y, hy, rfl⟩ := List.mem_map.1 hx
    unfold SV.kill
    split
    · simp [SV.has]
    · exact h y hy
  | rows dd t xs hs =>
    simp only [LObj.kill, LObj.hit, mapHs] at h ⊢
    rw [List.any_eq_false] at h ⊢
    intro x hx
    obtain ⟨y, hy, rfl⟩ := List.mem_map.1 hx
    unfold SV.kill
    split
    · simp [SV.has]
    · exact h y hy
  | _ => rfl
theorem kills_hit {d : Nat} : ∀ {ns : List Nat} {o : LObj}, o.hit d = false → (ns.foldr LObj.kill o).hit d = false
  | [], _, h => h
  | n :: ns, o, h => by rw [List.foldr_cons]; exact kill_hit (kills_hit h)
theorem chain_at_clean {ch : Chain} {d : Nat} : ∀ (k : Nat) {L : LL} {s : Nat} {o : LObj}, (∀ p ∈ L, p.1 ≠ d ∧ p.2.hit d = false) → (∀ c ∈ ch, ∀ p ∈ c.2.2, p.1 ≠ d ∧ p.2.hit d = false) → get (ch.at k L) s = some o → s ≠ d ∧ o.hit d = false := by
  intro k
  unfold Chain.at
  intro L s o hL hch
  have hch' : ∀ c ∈ ch.take k, ∀ p ∈ c.2.2, p.1 ≠ d ∧ p.2.hit d = false := fun c hc => hch c (List.mem_of_mem_take hc)
  revert hch'
  generalize ch.take k = l
  intro hl
  induction l generalizing L with
  | nil => intro h; exact hL (s, o) (get_mem _ _ _ h)
  | cons c l ih =>
    rw [List.foldl_cons]
    refine ih (L := nextL c.2.1 c.2.2 L) (fun p hp => ?_) (fun c' hc' => hl c' (by simp [hc']))
    unfold nextL at hp
    rcases List.mem_append.1 hp with hp | hp
    · exact hl c (by simp) p hp
    · have : ∃ q ∈ L, p.1 = q.1 ∧ p.2 = c.2.1.foldr LObj.kill q.2 := by
        clear ih
        have key : ∀ (M : LL), p ∈ mapv (fun o => c.2.1.foldr LObj.kill o) M → ∃ q ∈ M, p.1 = q.1 ∧ p.2 = c.2.1.foldr LObj.kill q.2 := by
          intro M
          induction M with
          | nil => intro h; cases h
          | cons q M ihM =>
            intro h
            obtain ⟨k', v'⟩ := q
            rcases List.mem_cons.1 h with rfl | h
            · exact ⟨(k', v'), by simp, rfl, rfl⟩
            · obtain ⟨q, hq, h1⟩ := ihM h
              exact ⟨q, by simp [hq], h1⟩
        obtain ⟨q, hq, h1⟩ := key _ hp
        exact ⟨q, (List.mem_filter.1 hq).1, h1⟩
      obtain ⟨q, hq, e1, e2⟩ := this
      rw [e1, e2]
      exact ⟨(hL q hq).1, kills_hit (hL q hq).2⟩
theorem Rel.less {L' : LL} {F : Fr} {a : Act} {w : World} (hr : Rel C F L' a w) (hs : ∀ s o, get L s = some o → get L' s = some o) : Rel C F L a w := by
  obtain ⟨h, ρ, hr⟩ := hr
  exact ⟨h, ρ, hr.less hs⟩
theorem cover_chain {ops : Array Oper} {m : Nat} {mk : Makers} {ch : Chain} {base : Fr} {out : List (Nat × AV)} (hk : MkOk ops m mk ch base L out) {listed : Array Bool} {c : Nat × List Nat × LL} (hc : c ∈ ch) {X : LL} :
    ∀ s o, get (mkL mk listed ++ nextL c.2.1 c.2.2 X) s = some o → get (nextL c.2.1 c.2.2 (mkL mk listed ++ X)) s = some o := by
  intro s o h
  rw [get_app] at h
  cases hA : get (mkL mk listed) s with
  | some o' =>
    rw [hA] at h
    obtain rfl := Option.some.inj h
    obtain ⟨e, he, hl, rfl, rfl⟩ := mkL_mem hA
    obtain ⟨h1, h2, h3, h4⟩ := hk.ch1 e he c hc
    refine get_nextL (by rw [get_app, hA]) h2 h3 ?_
    rw [List.any_eq_false]
    intro p hp
    simpa using (h4 p hp).1
  | none =>
    rw [hA] at h
    rw [get_nextL'] at h ⊢
    rw [get_app, hA]
    exact h
theorem cover_maker {ops : Array Oper} {m : Nat} {mk : Makers} {ch : Chain} {base : Fr} {out : List (Nat × AV)} (hk : MkOk ops m mk ch base L out) {listed : Array Bool} {e : Nat × Nat × LObj} (he : e ∈ mk) {k : Nat} (hls : e.1 < listed.size) :
    ∀ s o, get (mkL mk (listed.setIfInBounds e.1 true) ++ ch.at k L) s = some o → get (nextL [e.2.1] [(e.2.1, e.2.2)] (mkL mk listed ++ ch.at k L)) s = some o := by
  intro s o h
  have hset : ∀ j, (listed.setIfInBounds e.1 true).getD j false = if e.1 = j then true else listed.getD j false := by
    intro j
    rw [Array.getD_eq_getD_getElem?, Array.getElem?_setIfInBounds]
    by_cases hij : e.1 = j
    · subst hij; simp [hls]
    · rw [if_neg hij, if_neg hij, ← Array.getD_eq_getD_getElem?]
  rw [get_app] at h
  cases hA : get (mkL mk (listed.setIfInBounds e.1 true)) s with
  | some o' =>
    rw [hA] at h
    obtain rfl := Option.some.inj h
    obtain ⟨e', he', hl, rfl, rfl⟩ := mkL_mem hA
    rw [hset] at hl
    by_cases hi : e.1 = e'.1
    · have := nodup_map_inj hk.nd2 he he' hi
      subst this
      rw [get_nextL']
      simp [get]
    · rw [if_neg hi] at hl
      have hne : e'.2.1 ≠ e.2.1 := fun hh => hi (by rw [nodup_map_inj hk.nd1 he' he hh])
      refine get_nextL (by rw [get_app, get_mkL hk.nd1 he' hl]) (by simpa using hne) (by simpa using hk.self e he e' he') (by simpa using Ne.symm hne)
  | none =>
    rw [hA] at h
    obtain ⟨h1, h2⟩ := chain_at_clean k (hk.cleanL e he) (fun c hc => (hk.ch1 e he c hc).2.2.2) h
    have hB : get (mkL mk listed) s = none := by
      cases hB : get (mkL mk listed) s with
      | none => rfl
      | some o' =>
        obtain ⟨e', he', hl, rfl, rfl⟩ := mkL_mem hB
        have := get_mkL (listed := listed.setIfInBounds e.1 true) hk.nd1 he' (by rw [hset]; split <;> first | rfl | exact hl)
        rw [hA] at this; cases this
    exact get_nextL (by rw [get_app, hB]; exact h) (by simpa using h1) (by simpa using h2) (by simpa using Ne.symm h1)

/-- the steps of the chain that are surely behind us when those of 'js' are -/
def loA (js : List Nat) : Nat → Chain → Nat → Nat
  | _, [], a => a
  | q, c :: r, a => loA js (q + 1) r (if js.contains c.1 then q + 1 else a)
theorem loA_le {js : List Nat} {k : Nat} : ∀ {r : Chain} {q a : Nat}, a ≤ k → (∀ j c, r[j]? = some c → c.1 ∈ js → q + j < k) → loA js q r a ≤ k
  | [], _, _, ha, _ => ha
  | c :: r, q, a, ha, h => by
    unfold loA
    refine loA_le ?_ (fun j c' hc' hm => by have := h (j + 1) c' (by simpa using hc') hm; omega)
    split
    · rename_i hc
      have := h 0 c rfl (by simpa using hc)
      omega
    · exact ha
def Chain.lo (ch : Chain) (js : List Nat) : Nat := loA js 0 ch 0
structure Inv (C : Ctx) (m : Nat) (ch : Chain) (mk : Makers) (base : Fr) (L : LL) (out : List (Nat × AV)) (listed : Array Bool) (a : Act) (w : World) (k : Nat) (F : Fr) : Prop where
  le : k ≤ ch.length
  stage : ∀ q c, ch[q]? = some c → listed.getD c.1 false = decide (q < k)
  rel : Rel C F (mkL mk listed ++ ch.at k L) a w
  done : ∀ j d av, j < m → listed.getD j false = true → out[j]? = some (d, av) → ch.hits (ch.start j) k av = false → get F d = some av
  bas : ∀ p ∈ base, ch.hits 0 k p.2 = false → get F p.1 = some p.2

theorem start_quiet {ch : Chain} {i : Nat} (h : ∀ c ∈ ch, c.1 ≠ i) : ch.start i = 0 := by
  unfold Chain.start
  have : ch.findIdx? (fun c => c.1 == i) = none := by
    rw [List.findIdx?_eq_none_iff]
    intro c hc
    have := h c hc
    simpa using this
  rw [this]
theorem upto_spec {ch : Chain} {ops : Array Oper} {i : Nat} (h : ∀ c ∈ ch, c.1 ≠ i) : ch.upto ops i = ch.length ∨ ∃ c o, ch[ch.upto ops i]? = some c ∧ ops[c.1]? = some o ∧ i ∈ edgesOf o := by
  unfold Chain.upto
  split
  · rename_i q hq
    right
    obtain ⟨hlt, hp, _⟩ := List.findIdx?_eq_some_iff_getElem.1 hq
    have hne := h ch[q] (List.getElem_mem hlt)
    simp only [Bool.or_eq_true, beq_iff_eq, hne, false_or] at hp
    split at hp
    · rename_i o ho
      exact ⟨ch[q], o, List.getElem?_eq_getElem hlt, ho, by simpa using hp⟩
    · cases hp
  · exact .inl rfl
theorem Inv.cover {m : Nat} {ch : Chain} {mk : Makers} {base : Fr} {out : List (Nat × AV)} {listed : Array Bool} {a : Act} {w : World} {k : Nat} {F : Fr} (hi : Inv C m ch mk base L out listed a w k F) {js : List Nat} {K : Nat} (hk : k ≤ K)
    (hj : ∀ j ∈ js, j < m ∧ listed.getD j false = true) : ∀ p ∈ frC ch out base js K, get F p.1 = some p.2 := by
  intro p hp
  unfold frC at hp
  rcases List.mem_append.1 hp with hp | hp
  · obtain ⟨j, hjs, hb⟩ := List.mem_filterMap.1 hp
    obtain ⟨e, he, hb⟩ := Option.bind_eq_some_iff.1 hb
    split at hb
    · cases hb
    · rename_i hh
      obtain rfl := Option.some.inj hb
      exact hi.done j e.1 e.2 (hj j hjs).1 (hj j hjs).2 he (hits_mono hk (by simpa using hh))
  · obtain ⟨h1, h2⟩ := List.mem_filter.1 hp
    exact hi.bas p h1 (hits_mono hk (by simpa using h2))
theorem chain_at_succ {ch : Chain} {k : Nat} {c : Nat × List Nat × LL} (h : ch[k]? = some c) : ch.at (k + 1) L = nextL c.2.1 c.2.2 (ch.at k L) := by
  unfold Chain.at
  rw [List.take_add_one, h, List.foldl_append]; rfl

theorem W_drawC0 {B : Code} {p : List Nat} {Q : Post} (m : Nat) (ch : Chain) (mk : Makers) {out : List (Nat × AV)} (hdr : isDraw (nav B p) = true)
    (hm : C.P.follows .mixedOrders = true) (hok : (drawOkT (opsOf (nav B p)) m [] && dstOk C.n (opsOf (nav B p)) && once fr && once (baseFr (opsOf (nav B p)) m fr) && chOk (opsOf (nav B p)) m ch L out && mkOk (opsOf (nav B p)) m mk ch (baseFr (opsOf (nav B p)) m fr) L out) = true) (houtlen : out.length = m)
    (hdst : ∀ i o, i < m → (opsOf (nav B p))[i]? = some o → ∃ d av, o.dst = some d ∧ out[i]? = some (d, av))
    (hq : ∀ i o d av, i < m → (opsOf (nav B p))[i]? = some o → (∀ c ∈ ch, c.1 ≠ i) → (∀ e ∈ mk, e.1 ≠ i) → o.dst = some d → out[i]? = some (d, av) → ∀ k, ch.lo (edgesOf o) ≤ k → k ≤ ch.upto (opsOf (nav B p)) i →
      Drawn C (opsOf (nav B p)) i d av (frC ch out (baseFr (opsOf (nav B p)) m fr) (edgesOf o) (ch.upto (opsOf (nav B p)) i)) (ch.at k L))
    (hc : ∀ q c o d av, ch[q]? = some c → (opsOf (nav B p))[c.1]? = some o → o.dst = some d → out[c.1]? = some (d, av) →
      CStep C (opsOf (nav B p)) c.1 d c.2.1 c.2.2 av (frC ch out (baseFr (opsOf (nav B p)) m fr) (edgesOf o) q) (ch.at q L))
    (hmk : ∀ e ∈ mk, ∃ av, out[e.1]? = some (e.2.1, av) ∧ CStep C (opsOf (nav B p)) e.1 e.2.1 [e.2.1] [(e.2.1, e.2.2)] av [] [])
    (hn : WO C (opsOf (nav B p)) m Q (frC ch out (baseFr (opsOf (nav B p)) m fr) (List.range m) ch.length) (mkAll mk ++ ch.at ch.length L)) : W C (nav B p) Q fr L := by
  simp only [Bool.and_eq_true] at hok
  obtain ⟨⟨⟨⟨⟨hok, hdok⟩, honce⟩, honceB⟩, hcho⟩, hmko⟩ := hok
  generalize hops : opsOf (nav B p) = ops at *
  intro a w hr
  cases hcc : nav B p <;> simp only [hcc, isDraw, Bool.false_eq_true] at hdr
  rename_i id ops' dd
  rw [hcc] at hops
  simp only [opsOf] at hops
  simp only [Bool.and_eq_true] at hdr
  obtain ⟨hdr, hpl⟩ := hdr
  subst hops hdr
  generalize hbase : baseFr ops' m fr = base at *
  have hmko := mkOk_spec hmko
  obtain ⟨hmle, hnodup, hnosel, _, htailok⟩ := drawOkT_parts hok
  have hedge : ∀ i o, ops'[i]? = some o → ∀ j ∈ edgesOf o, j < i := fun i o ho => (edges_ltT hok ho).1
  unfold chOk at hcho
  simp only [Bool.and_eq_true] at hcho
  obtain ⟨⟨⟨hc1, hc2⟩, hc3⟩, hc4⟩ := hcho
  have hchm : ∀ c ∈ ch, c.1 < m := fun c hc => by simpa using List.all_eq_true.1 hc1 c hc
  have hL : (L.map (·.1)).Nodup := of_decide_eq_true hc3
  have hsure : ∀ (j d : Nat) (av : AV), out[j]? = some (d, av) → av.sure = true := fun j d av h => List.all_eq_true.1 hc4 (d, av) (List.mem_of_getElem? h)
  have hstart : ∀ (q : Nat) (c : Nat × List Nat × LL), ch[q]? = some c → ch.start c.1 = q + 1 ∧ (0 < q → ∃ b o, ch[q - 1]? = some b ∧ ops'[c.1]? = some o ∧ b.1 ∈ edgesOf o) := by
    intro q c hqc
    have hlt := (List.getElem?_eq_some_iff.1 hqc).1
    have := List.all_eq_true.1 hc2 q (by simpa using hlt)
    rw [hqc] at this
    simp only [Bool.and_eq_true, beq_iff_eq, Bool.or_eq_true] at this
    refine ⟨this.1, fun h0 => ?_⟩
    rcases this.2 with h1 | h1
    · omega
    · split at h1
      · rename_i b o hb ho
        exact ⟨b, o, hb, ho, by simpa using h1⟩
      · cases h1
  have hinj : ∀ (q q' : Nat) (c c' : Nat × List Nat × LL), ch[q]? = some c → ch[q']? = some c' → c.1 = c'.1 → q = q' := fun q q' c c' h1 h2 h3 => by
    have e1 := (hstart q c h1).1
    have e2 := (hstart q' c' h2).1
    rw [h3, e2] at e1
    omega
  have hdist : ∀ (i j d : Nat) (av av' : AV), i < m → j < m → out[i]? = some (d, av) → out[j]? = some (d, av') → i = j := by
    intro i j d av av' hi hj h1 h2
    have key : ∀ k, k < m → ∃ o, ops'[k]? = some o ∧ ∃ d av, o.dst = some d ∧ out[k]? = some (d, av) := fun k hk => ⟨ops'[k], Array.getElem?_eq_getElem (by omega), hdst k _ hk (Array.getElem?_eq_getElem (by omega))⟩
    have hds : (ops'.toList.take m).filterMap (·.dst) = out.map (·.1) := by
      apply List.ext_getElem?
      intro k
      have hall : ∀ o ∈ ops'.toList.take m, o.dst.isSome = true := by
        intro o ho
        obtain ⟨k, hk, rfl⟩ := List.getElem_of_mem ho
        have hkm : k < m := by simp at hk; omega
        obtain ⟨o', ho', d, av, hd, _⟩ := key k hkm
        have : ops'[k]? = some ops'[k] := Array.getElem?_eq_getElem (by omega)
        rw [this] at ho'
        obtain rfl := Option.some.inj ho'
        simp [hd]
      have hfm : ∀ (l : List Oper), (∀ o ∈ l, o.dst.isSome = true) → l.filterMap (·.dst) = l.map fun o => o.dst.getD 0 := by
        intro l
        induction l with
        | nil => intro _; rfl
        | cons o l ih =>
          intro hl
          have := hl o (by simp)
          cases hod : o.dst with
          | none => rw [hod] at this; simp at this
          | some d => simp [hod, ih (fun x hx => hl x (by simp [hx]))]
      rw [hfm _ hall]
      by_cases hk : k < m
      · obtain ⟨o', ho', d, av, hd, hout⟩ := key k hk
        simp [List.getElem?_take_of_lt hk, ho', hd, hout]
      · rw [List.getElem?_eq_none (by simp; omega), List.getElem?_eq_none (by simp; omega)]
    rw [hds] at hnodup
    have hi' : i < (out.map (·.1)).length := by simp; omega
    have hj' : j < (out.map (·.1)).length := by simp; omega
    have e1 : (out.map (·.1))[i] = d := by
      have : (out.map (·.1))[i]? = some d := by simp [h1]
      rw [List.getElem?_eq_getElem hi'] at this
      exact Option.some.inj this
    have e2 : (out.map (·.1))[j] = d := by
      have : (out.map (·.1))[j]? = some d := by simp [h2]
      rw [List.getElem?_eq_getElem hj'] at this
      exact Option.some.inj this
    exact (List.getElem_inj hnodup).1 (e1.trans e2.symm)
  have hdstin : ∀ (i d : Nat) (av : AV), i < m → out[i]? = some (d, av) → d ∈ (ops'.toList.take m).filterMap (·.dst) := by
    intro i d av hi h1
    obtain ⟨d', av', h2, h3⟩ := hdst i ops'[i] hi (Array.getElem?_eq_getElem (by omega))
    rw [h1] at h3
    simp only [Option.some.injEq, Prod.mk.injEq] at h3
    obtain ⟨rfl, rfl⟩ := h3
    refine List.mem_filterMap.2 ⟨ops'[i], ?_, h2⟩
    rw [List.mem_iff_getElem?]
    exact ⟨i, by rw [List.getElem?_take_of_lt hi]; simp⟩
  have hbase1 : ∀ p ∈ base, p.2.sure = true ∧ ∀ (i d : Nat) (av : AV), i < m → out[i]? = some (d, av) → p.1 ≠ d := by
    intro p hp
    have hg := once_get honceB hp
    rw [← hbase] at hg
    obtain ⟨g1, g2⟩ := base_spec hg
    exact ⟨g2, fun i d av hi ho e => g1 (e ▸ hdstin i d av hi ho)⟩
  have gd : ∀ (listed : Array Bool), listed.size = ops'.size → ∀ i b, i < ops'.size → listed.getD i b = listed.getD i false := by
    intro listed hls i b hi
    rw [Array.getD_eq_getD_getElem?, Array.getD_eq_getD_getElem?, Array.getElem?_eq_getElem (by omega)]; rfl
  have hset : ∀ (listed : Array Bool) i k, listed.size = ops'.size → i < ops'.size → (listed.setIfInBounds i true).getD k false = if i = k then true else listed.getD k false := by
    intro listed i k hls hi
    rw [Array.getD_eq_getD_getElem?, Array.getElem?_setIfInBounds]
    by_cases hik : i = k
    · subst hik; simp [hls, hi]
    · rw [if_neg hik, if_neg hik, ← Array.getD_eq_getD_getElem?]
  have toTail : ∀ (listed : Array Bool) (a : Act) (w : World), listed.size = ops'.size → (∀ i, m ≤ i → i < ops'.size → listed.getD i false = false) → (∃ k F, Inv C m ch mk base L out listed a w k F) → (∀ i, i < m → listed.getD i false = true) → ∀ fuel, ops'.size - m ≤ fuel → wpAny C.P .any ops' (lift C (normQ Q)) fuel listed a w := by
    intro listed a w hls htl ⟨k, F, hI⟩ hall fuel hf
    have hk : k = ch.length := by
      have := hI.le
      rcases Nat.lt_or_ge k ch.length with h1 | h1
      · have hck : ch[k]? = some ch[k] := List.getElem?_eq_getElem h1
        have := hI.stage k _ hck
        rw [hall _ (hchm _ (List.getElem_mem h1))] at this
        simp at this
      · omega
    subst hk
    refine draw_tailT hedge htailok hnosel (ops'.size - m) m listed a w (by omega) (Nat.le_refl _) hls (fun i hi => ?_) (hn a w (by have := hI.rel; rw [mkL_all (fun e he => hall _ (hmko.lt e he))] at this; exact this.cover (hI.cover (Nat.le_refl _) (fun j hj => by have := List.mem_range.1 hj; exact ⟨this, hall j this⟩)))) fuel hf
    · by_cases him : i < m
      · rw [hall i him]; simp [him]
      · rw [htl i (by omega) hi]; simp [him]
  have quiet : ∀ (fuel : Nat) (listed : Array Bool) (a : Act) (w : World), listed.size = ops'.size → (∀ i, m ≤ i → i < ops'.size → listed.getD i false = false) →
      (∀ i o, i < m → ops'[i]? = some o → listed.getD i false = true → ∀ j ∈ edgesOf o, listed.getD j false = true) →
      (∃ k F, Inv C m ch mk base L out listed a w k F) → ops'.size ≤ fuel + ((List.range ops'.size).filter fun i => listed.getD i false).length → wpAny C.P .any ops' (lift C (normQ Q)) fuel listed a w := by
    intro fuel
    induction fuel with
    | zero =>
      intro listed a w hls htl hdc hI hcount
      have hall : ∀ i, i < ops'.size → listed.getD i false = true := by
        intro i hi
        have hlen : ((List.range ops'.size).filter fun i => listed.getD i false).length = (List.range ops'.size).length := by
          have := List.length_filter_le (fun i => listed.getD i false) (List.range ops'.size)
          simp at this hcount ⊢; omega
        have := List.length_filter_eq_length_iff.1 hlen i (by simpa using hi)
        simpa using this
      have hms : m = ops'.size := by
        rcases Nat.lt_or_ge m ops'.size with hlt | hge
        · have := htl m (Nat.le_refl _) hlt; rw [hall m hlt] at this; cases this
        · omega
      exact toTail listed a w hls htl hI (fun i hi => hall i (by omega)) 0 (by omega)
    | succ fuel ih =>
      intro listed a w hls htl hdc hI hcount
      by_cases hdone : ∀ i, i < m → listed.getD i false = true
      · refine toTail listed a w hls htl hI hdone (fuel + 1) ?_
        have h1 : (List.range ops'.size).filter (fun i => listed.getD i false) = (List.range ops'.size).filter (fun i => decide (i < m)) := by
          apply List.filter_congr
          intro i hi
          by_cases him : i < m
          · rw [hdone i him]; simp [him]
          · rw [htl i (by omega) (by simpa using hi)]; simp [him]
        have h2 : (List.range ops'.size).filter (fun i => decide (i < m)) = List.range m := by
          have : ops'.size = m + (ops'.size - m) := by omega
          rw [this, List.range_add, List.filter_append]
          have e1 : (List.range m).filter (fun i => decide (i < m)) = List.range m := List.filter_eq_self.2 (by simp)
          have e2 : ((List.range (ops'.size - m)).map (m + ·)).filter (fun i => decide (i < m)) = [] := List.filter_eq_nil_iff.2 (by simp)
          rw [e1, e2]; simp
        rw [h1, h2] at hcount
        simp at hcount; omega
      · obtain ⟨i0, hi0, hi0l⟩ : ∃ i, i < m ∧ listed.getD i false = false := by
          simp only [Classical.not_forall, Bool.not_eq_true] at hdone
          obtain ⟨i, hi, hil⟩ := hdone; exact ⟨i, hi, hil⟩
        have hnonempty : Region.ready .any ops' listed ≠ [] := by
          have hex : ∃ i, i < ops'.size ∧ listed.getD i false = false ∧ ∀ j, j < i → listed.getD j false = true := by
            obtain ⟨k, ⟨hk1, hk2⟩, hk3⟩ := least_of (p := fun i => i < ops'.size ∧ listed.getD i false = false) i0 ⟨by omega, hi0l⟩
            refine ⟨k, hk1, hk2, fun j hj => ?_⟩
            have := hk3 j hj
            cases hq : listed.getD j false with
            | true => rfl
            | false => exact (this ⟨by omega, hq⟩).elim
          obtain ⟨k, hk1, hk2, hk3⟩ := hex
          intro hempty
          have : k ∈ Region.ready .any ops' listed := mem_ready'.2 ⟨hk1, by rw [gd listed hls k _ hk1]; exact hk2, ops'[k], Array.getElem?_eq_getElem hk1, fun j hj => hk3 j (hedge _ _ (Array.getElem?_eq_getElem hk1) j hj)⟩
          rw [hempty] at this; cases this
        refine ⟨fun e => (hnonempty e).elim, fun i hi => ?_⟩
        obtain ⟨h1, h2, o, ho1, ho2'⟩ := mem_ready'.1 hi
        rw [gd listed hls i _ h1] at h2
        rcases Nat.lt_or_ge i m with him | him
        · obtain ⟨d, av, hd1, hout⟩ := hdst i o him ho1
          have hdn : d < C.n := by
            have := List.all_eq_true.1 hdok o (by simpa using Array.mem_of_getElem? ho1)
            rw [hd1] at this; simpa using this
          obtain ⟨k, F, hI⟩ := hI
          have hjs : ∀ j ∈ edgesOf o, j < m ∧ listed.getD j false = true := fun j hj => ⟨by have := hedge _ _ ho1 j hj; omega, ho2' j hj⟩
          -- what goes on behind it
          have next : ∀ (a' : Act) (w' : World), (∃ k' F', Inv C m ch mk base L out (listed.setIfInBounds i true) a' w' k' F') → wpAny C.P .any ops' (lift C (normQ Q)) fuel (listed.setIfInBounds i true) a' w' := by
            intro a' w' hI'
            refine ih (listed.setIfInBounds i true) a' w' (by simp [hls]) ?_ ?_ hI' ?_
            · intro k hk hk2
              rw [hset listed i k hls h1, if_neg (by omega)]
              exact htl k hk hk2
            · intro k ok hk hok' hkl j hj
              rw [hset listed i j hls h1]
              split
              · rfl
              · rw [hset listed i k hls h1] at hkl
                by_cases hik : i = k
                · subst hik
                  rw [ho1] at hok'
                  obtain rfl := Option.some.inj hok'
                  exact ho2' j hj
                · rw [if_neg hik] at hkl
                  exact hdc k ok hk hok' hkl j hj
            · have : ((List.range ops'.size).filter fun k => (listed.setIfInBounds i true).getD k false).length = ((List.range ops'.size).filter fun k => listed.getD k false).length + 1 := by
                rw [List.filter_congr (q := fun k => decide (k = i) || listed.getD k false) (fun k hk => by
                  rw [hset listed i k hls h1]
                  by_cases hik : i = k
                  · subst hik; simp
                  · rw [if_neg hik]; simp [Ne.symm hik])]
                exact count_one ops'.size i (fun k => listed.getD k false) h1 h2
              rw [this]; omega
          by_cases hmi : ∃ e ∈ mk, e.1 = i
          · obtain ⟨e, hem, rfl⟩ := hmi
            obtain ⟨av', hout', hstep⟩ := hmk e hem
            rw [hout] at hout'
            simp only [Option.some.injEq, Prod.mk.injEq] at hout'
            obtain ⟨rfl, rfl⟩ := hout'
            refine hstep F _ a w (fun p hp => by cases hp) (fun s o hs => by simp [get] at hs) hI.rel _ _ (fun a' w' hrel' => next _ _ ⟨k, putF (killFs [e.2.1] F) e.2.1 av, hI.le, ?_, ?_, ?_, ?_⟩)
            · intro q c hqc
              rw [hset listed e.1 c.1 hls h1, if_neg (Ne.symm (hmko.ch1 e hem c (List.mem_of_getElem? hqc)).1)]
              exact hI.stage q c hqc
            · exact hrel'.less (cover_maker hmko hem (by omega))
            · intro j dj avj hj hjl hjo hjh
              by_cases hij : e.1 = j
              · subst hij
                rw [hout] at hjo
                simp only [Option.some.injEq, Prod.mk.injEq] at hjo
                obtain ⟨rfl, rfl⟩ := hjo
                exact get_putF_self
              · rw [hset listed e.1 j hls h1, if_neg hij] at hjl
                have hnh : avj.hit e.2.1 = false := by
                  cases hh : avj.hit e.2.1 with
                  | false => rfl
                  | true =>
                    obtain ⟨oj, hoj⟩ : ∃ oj, ops'[j]? = some oj := ⟨ops'[j], Array.getElem?_eq_getElem (by omega)⟩
                    have := hmko.outs e hem j (dj, avj) oj hj hjo hoj (Ne.symm hij) hh
                    have := hdc j oj hj hoj hjl _ this
                    rw [h2] at this; cases this
                exact get_putF (get_killFs' (hI.done j dj avj hj hjl hjo hjh) (by simpa using hnh)) (hsure j dj avj hjo) (fun e' => hij (hdist e.1 j _ av avj him hj hout (e' ▸ hjo)))
            · intro p hp hph
              obtain ⟨b1, b2⟩ := hbase1 p hp
              exact get_putF (get_killFs' (hI.bas p hp hph) (by simpa using hmko.cleanB e hem p hp)) b1 (b2 e.1 _ av him hout)
          have hnm : ∀ e ∈ mk, e.1 ≠ i := fun e he h => hmi ⟨e, he, h⟩
          have hmkc : mkL mk (listed.setIfInBounds i true) = mkL mk listed := mkL_congr (fun e he => by rw [hset listed i e.1 hls h1, if_neg (Ne.symm (hnm e he))])
          by_cases hch : ∀ c ∈ ch, c.1 ≠ i
          · -- a quiet one
            have hkK : k ≤ ch.upto ops' i := by
              rcases upto_spec (ops := ops') hch with e | ⟨c, oc, e1, e2, e3⟩
              · rw [e]; exact hI.le
              · rcases Nat.lt_or_ge (ch.upto ops' i) k with hlt | hge
                · have := hI.stage _ c e1
                  rw [decide_eq_true hlt] at this
                  have := hdc c.1 oc (hchm c (List.mem_of_getElem? e1)) e2 this i e3
                  rw [h2] at this; cases this
                · exact hge
            obtain ⟨h, ρ, hrel⟩ := hI.rel
            have hcov := hI.cover hkK hjs
            have hLq : ∀ s o, get (ch.at k L) s = some o → get (mkL mk listed ++ ch.at k L) s = some o := by
              intro s o hs
              rw [get_app]
              cases hA : get (mkL mk listed) s with
              | none => exact hs
              | some o' =>
                obtain ⟨e, he, _, hes, _⟩ := mkL_mem hA
                exact ((chain_at_clean k (hmko.cleanL e he) (fun c hc => (hmko.ch1 e he c hc).2.2.2) hs).1 hes.symm).elim
            have hlo : ch.lo (edgesOf o) ≤ k := loA_le (Nat.zero_le _) (fun q c hqc hce => by
              have := hI.stage q c hqc
              rw [ho2' c.1 hce] at this
              have := of_decide_eq_true this.symm
              omega)
            have hrelI : RelH C h ρ (frC ch out base (edgesOf o) (ch.upto ops' i)) (ch.at k L) a w :=
              RelH.less { hrel with fr := fun t v ht => hrel.fr t v (hcov (t, v) (get_mem _ _ _ ht)) } hLq
            refine hq i o d av him ho1 hch hnm hd1 hout k hlo hkK h ρ a w hrelI _ _ (fun h' v w' hext hlift hv => next _ _ ⟨k, putF F d av, hI.le, ?_, ?_, ?_, ?_⟩)
            · intro q c hqc
              rw [hset listed i c.1 hls h1, if_neg (Ne.symm (hch c (List.mem_of_getElem? hqc)))]
              exact hI.stage q c hqc
            · rw [hmkc]; exact ⟨h', ρ, (hlift F _ hLq hrel).putSlot d av v hdn hv⟩
            · intro j dj avj hj hjl hjo hjh
              by_cases hij : i = j
              · subst hij
                rw [hout] at hjo
                simp only [Option.some.injEq, Prod.mk.injEq] at hjo
                obtain ⟨rfl, rfl⟩ := hjo
                exact get_putF_self
              · rw [hset listed i j hls h1, if_neg hij] at hjl
                exact get_putF (hI.done j dj avj hj hjl hjo hjh) (hsure j dj avj hjo) (fun e => hij (hdist i j d av avj him hj hout (e ▸ hjo)))
            · intro p hp hph
              obtain ⟨b1, b2⟩ := hbase1 p hp
              exact get_putF (hI.bas p hp hph) b1 (b2 i d av him hout)
          · -- a step of the chain
            simp only [Classical.not_forall, Classical.not_not] at hch
            obtain ⟨c, hcm, hci⟩ := hch
            obtain ⟨q, hqlt, hqe⟩ := List.getElem_of_mem hcm
            have hqc : ch[q]? = some c := by rw [List.getElem?_eq_getElem hqlt, hqe]
            subst hci
            have hqk : q = k := by
              have hst := hI.stage q c hqc
              rw [h2] at hst
              have hge := of_decide_eq_false hst.symm
              rcases Nat.eq_or_lt_of_le (Nat.le_of_not_lt hge) with e | hlt
              · exact e.symm
              · obtain ⟨b, ob, hb, hob, hbe⟩ := (hstart q c hqc).2 (by omega)
                rw [ho1] at hob
                obtain rfl := Option.some.inj hob
                have := ho2' b.1 hbe
                rw [hI.stage (q - 1) b hb] at this
                have := of_decide_eq_true this
                omega
            subst hqk
            have hcov := hI.cover (Nat.le_refl _) hjs
            have hLc : ∀ s o, get (ch.at q L) s = some o → get (mkL mk listed ++ ch.at q L) s = some o := by
              intro s o hs
              rw [get_app]
              cases hA : get (mkL mk listed) s with
              | none => exact hs
              | some o' =>
                obtain ⟨e, he, _, hes, _⟩ := mkL_mem hA
                exact ((chain_at_clean q (hmko.cleanL e he) (fun c hc => (hmko.ch1 e he c hc).2.2.2) hs).1 hes.symm).elim
            refine hc q c o d av hqc ho1 hd1 hout F _ a w hcov hLc hI.rel _ _ (fun a' w' hrel' => next _ _ ⟨q + 1, putF (killFs c.2.1 F) d av, by omega, ?_, ?_, ?_, ?_⟩)
            · intro q' c' hqc'
              rw [hset listed c.1 c'.1 hls h1]
              by_cases e : c.1 = c'.1
              · have := hinj q q' c c' hqc hqc' e
                subst this
                rw [if_pos e]; simp
              · rw [if_neg e, hI.stage q' c' hqc']
                have hne : q' ≠ q := by rintro rfl; rw [hqc] at hqc'; exact e (by rw [Option.some.inj hqc'])
                congr 1
                exact propext ⟨fun h => by omega, fun h => by omega⟩
            · rw [chain_at_succ hqc, hmkc]; exact hrel'.less (cover_chain hmko hcm)
            · intro j dj avj hj hjl hjo hjh
              by_cases hij : c.1 = j
              · subst hij
                rw [hout] at hjo
                simp only [Option.some.injEq, Prod.mk.injEq] at hjo
                obtain ⟨rfl, rfl⟩ := hjo
                exact get_putF_self
              · rw [hset listed c.1 j hls h1, if_neg hij] at hjl
                have hsj : ch.start j ≤ q := by
                  by_cases hq' : ∀ c' ∈ ch, c'.1 ≠ j
                  · rw [start_quiet hq']; omega
                  · simp only [Classical.not_forall, Classical.not_not] at hq'
                    obtain ⟨c', hc', e⟩ := hq'
                    obtain ⟨q', hq'lt, hq'e⟩ := List.getElem_of_mem hc'
                    have hqc' : ch[q']? = some c' := by rw [List.getElem?_eq_getElem hq'lt, hq'e]
                    have := hI.stage q' c' hqc'
                    rw [e, hjl] at this
                    have := of_decide_eq_true this.symm
                    rw [← e, (hstart q' c' hqc').1]; omega
                obtain ⟨s1, s2⟩ := hits_step hqc hsj hjh
                exact get_putF (get_killFs' (hI.done j dj avj hj hjl hjo s1) s2) (hsure j dj avj hjo) (fun e => hij (hdist c.1 j d av avj him hj hout (e ▸ hjo)))
            · intro p hp hph
              obtain ⟨b1, b2⟩ := hbase1 p hp
              obtain ⟨s1, s2⟩ := hits_step hqc (Nat.zero_le _) hph
              exact get_putF (get_killFs' (hI.bas p hp s1) s2) b1 (b2 c.1 d av him hout)
        · exfalso
          have h3m : m = i := by
            rcases Nat.lt_or_ge m i with h4 | h4
            · obtain ⟨j, hj, hjm⟩ := (edges_ltT hok ho1).2.2.2.2 h4
              have hjs := hedge _ _ ho1 j hj
              have := ho2' j hj
              rw [htl j hjm (by omega)] at this; cases this
            · omega
          have all : ∀ d j, m - j ≤ d → j < m → listed.getD j false = true := by
            intro d
            induction d with
            | zero => intro j h4 h5; omega
            | succ d ihd =>
              intro j h4 h5
              rcases (edges_ltT hok ho1).2.2.2.1 h3m j (by omega) with h7 | h7 | ⟨k, ok, k1, k2, k3, k4⟩
              · exact ho2' j h7
              · cases h7
              · have := hedge _ _ k3 j k4
                exact hdc k ok k1 k3 (ihd k (by omega) k1) j k4
          have := all m i0 (by omega) hi0
          rw [hi0l] at this; cases this
  refine region_any hpl hm (quiet ops'.size _ a _ (by simp) (fun i _ hi => by simp [Array.getD_eq_getD_getElem?, hi]) (fun i o hi ho hl => ?_) ?_ (by omega))
  · rw [Array.getD_eq_getD_getElem?] at hl
    simp [show i < ops'.size by omega] at hl
  · obtain ⟨h, ρ, hr'⟩ := hr.drawn
    refine ⟨0, base, Nat.zero_le _, fun q c hqc => ?_, ⟨h, ρ, ?_⟩, fun j d av hj hl => ?_, fun p hp _ => once_get honceB hp⟩
    · have := hchm c (List.mem_of_getElem? hqc)
      rw [Array.getD_eq_getD_getElem?]
      simp [show c.1 < ops'.size by omega]
    · rw [← hbase, mkL_none (fun e he => by have := hmko.lt e he; rw [Array.getD_eq_getD_getElem?]; simp [show e.1 < ops'.size by omega])]
      exact { hr' with fr := base_get (fun p hp => hr'.fr p.1 p.2 (once_get honce hp)) }
    · rw [Array.getD_eq_getD_getElem?] at hl
      simp [show j < ops'.size by omega] at hl
theorem W_drawC {B : Code} {p : List Nat} {Q : Post} (m : Nat) (ch : Chain) (mk : Makers) {out : List (Nat × AV)} (hdr : isDraw (nav B p) = true)
    (hm : C.P.follows .mixedOrders = true) (hok : (drawOkT (opsOf (nav B p)) m [] && dstOk C.n (opsOf (nav B p)) && once fr && once (baseFr (opsOf (nav B p)) m fr) && chOk (opsOf (nav B p)) m ch L out && mkOk (opsOf (nav B p)) m mk ch (baseFr (opsOf (nav B p)) m fr) L out) = true) (houtlen : out.length = m)
    (hdst : ∀ i o, i < m → (opsOf (nav B p))[i]? = some o → ∃ d av, o.dst = some d ∧ out[i]? = some (d, av))
    (hq : ∀ i o d av, i < m → (opsOf (nav B p))[i]? = some o → (∀ c ∈ ch, c.1 ≠ i) → (∀ e ∈ mk, e.1 ≠ i) → o.dst = some d → out[i]? = some (d, av) → ∀ k, ch.lo (edgesOf o) ≤ k → k ≤ ch.upto (opsOf (nav B p)) i →
      Drawn C (opsOf (nav B p)) i d av (frC ch out (baseFr (opsOf (nav B p)) m fr) (edgesOf o) (ch.upto (opsOf (nav B p)) i)) (ch.at k L))
    (hc : ∀ q c o d av, ch[q]? = some c → (opsOf (nav B p))[c.1]? = some o → o.dst = some d → out[c.1]? = some (d, av) →
      CStep C (opsOf (nav B p)) c.1 d c.2.1 c.2.2 av (frC ch out (baseFr (opsOf (nav B p)) m fr) (edgesOf o) q) (ch.at q L))
    (hmk : ∀ e ∈ mk, ∃ av, out[e.1]? = some (e.2.1, av) ∧ CStep C (opsOf (nav B p)) e.1 e.2.1 [e.2.1] [(e.2.1, e.2.2)] av [] [])
    (hn : WO C (opsOf (nav B p)) m (normQ Q) (frC ch out (baseFr (opsOf (nav B p)) m fr) (List.range m) ch.length) (mkAll mk ++ ch.at ch.length L)) : W C (nav B p) Q fr L :=
  W_mono (fun _ _ _ h => h.2) (W_drawC0 (Q := normQ Q) m ch mk hdr hm hok houtlen hdst hq hc hmk hn)

/-! ### steps of the chain -/
theorem SV.frz_kill (nm : Nat) (u : Ty) (xs : List u.den) (x : SV) : (x.kill nm).frz nm u xs = x.kill nm := by
  unfold SV.kill
  by_cases h : x.has nm = true
  · rw [if_pos h]; rfl
  · rw [if_neg h]
    cases x <;> simp_all [SV.frz, SV.has]
theorem frz_kill_list (nm : Nat) (u : Ty) (xs : List u.den) (cs : List SV) : (cs.map (SV.kill nm)).map (SV.frz nm u xs) = cs.map (SV.kill nm) := by
  rw [List.map_map]
  exact List.map_congr_left (fun x _ => SV.frz_kill nm u xs x)
theorem AV.frz_kill (nm d : Nat) (u : Ty) (xs : List u.den) (v : AV) : ((v.kill nm).unmb d).frz nm u xs = (v.kill nm).unmb d := by
  cases v with
  | one x => simp only [AV.kill, AV.unmb, AV.frz, SV.frz_kill]
  | agg cs => simp only [AV.kill, AV.unmb, AV.frz, frz_kill_list]
  | tup cs => simp only [AV.kill, AV.unmb, AV.frz, frz_kill_list]
  | mb g b x =>
    simp only [AV.kill, AV.unmb]
    split
    · rfl
    · simp only [AV.frz, SV.frz_kill]
theorem LObj.frz_kill (nm : Nat) (u : Ty) (xs : List u.den) (o : LObj) : (o.kill nm).frz nm u xs = o.kill nm := by
  cases o with
  | cells cs => simp only [LObj.kill, LObj.frz, frz_kill_list]
  | rows d t ys hs =>
    simp only [LObj.kill, LObj.frz, mapHs, List.map_map]
    congr 1
    exact List.map_congr_left fun e _ => by simp only [Function.comp, SV.frz_kill]
  | _ => rfl
theorem get_nextL_one {nm : Nat} {ob : LObj} {L : LL} {s : Nat} : get (nextL [nm] [(nm, ob)] L) s = get (newL nm ob L) s := by
  rw [get_nextL', get_newL]
  by_cases e : nm = s
  · simp [get, e]
  · simp only [get, if_neg e]
    rw [if_neg (by simpa using Ne.symm e)]
    rfl
theorem CStep.frz {ops : Array Oper} {i d nm : Nat} {u : Ty} {xs : List u.den} {frI : Fr} {L : LL} (h : CStep C ops i d [nm] [(nm, .seq u xs)] (.one (.slc nm)) frI L) (hlt : decide (nm < 1000) = true) : CStep C ops i d [nm] [] (.one (.dat (.slice u) xs)) frI L := by
  intro F L a w hF hLp hr Q K hK
  refine h F L a w hF hLp hr Q K (fun a' w' hr' => hK a' w' ?_)
  have hr' : Rel C (putF (killF nm F) d (.one (.slc nm))) (newL nm (.seq u xs) L) a' w' := hr'.less (fun s o hs => by rw [get_nextL_one]; exact hs)
  have hlt := of_decide_eq_true hlt
  have hg : get (newL nm (.seq u xs) L) nm = some (.seq u xs) := by rw [get_newL, if_pos rfl]
  have hfz : frzF (putF (killF nm F) d (.one (.slc nm))) (newL nm (.seq u xs) L) nm = some (mapv (AV.frz nm u xs) (putF (killF nm F) d (.one (.slc nm))), mapv (LObj.frz nm u xs) (del (newL nm (.seq u xs) L) nm)) := by
    unfold frzF
    rw [hg]
    simp only [hlt, if_true]
  obtain ⟨hh, ρ, hr2⟩ := hr'.frzF hfz
  rw [show killFs [nm] F = killF nm F from rfl]
  refine ⟨hh, ρ, RelH.less { hr2 with fr := fun t v ht => hr2.fr t v ?_ } (fun s o hs => ?_)⟩
  · rw [get_mapv]
    unfold putF at ht ⊢
    simp only [get] at ht ⊢
    by_cases e : d = t
    · rw [if_pos e] at ht ⊢
      rw [Option.map_some, ← ht]
      simp [AV.frz, SV.frz]
    · rw [if_neg e] at ht ⊢
      unfold killF at ht ⊢
      rw [get_mapv, get_del, if_neg e, get_mapv] at ht ⊢
      cases hft : get F t with
      | none => rw [hft] at ht; simp at ht
      | some v0 =>
        rw [hft] at ht
        simp only [Option.map_some, Option.some.injEq] at ht ⊢
        rw [← ht, AV.frz_kill]
  · rw [get_nextL'] at hs
    simp only [get] at hs
    rw [get_mapv, get_del]
    by_cases e : nm = s
    · rw [if_pos (by simp [e])] at hs; simp at hs
    · rw [if_neg (by simpa using Ne.symm e)] at hs
      simp only [List.foldr_cons, List.foldr_nil] at hs
      rw [if_neg e, get_newL, if_neg e]
      cases hls : get L s with
      | none => rw [hls] at hs; simp at hs
      | some o0 =>
        rw [hls] at hs
        simp only [Option.map_some, Option.some.injEq] at hs ⊢
        rw [← hs, LObj.frz_kill]

/-- an operation that makes or uses up one object: the name, the object behind it, what its slot holds, and what is owed -/
def cDo (P : Program) (ty : Bool) (fr : Fr) (L : LL) (d : Nat) (o : Oper) : Option (Nat × LObj × AV × Prop) :=
  match o.guard, o.op with
  | none, .alloc t => if nameOk d then (eAlloc P ty t).map fun ob => (d, ob, .one (.ptr d 0), True) else none
  | none, .makeMap t none => if nameOk d then (eMakeMap P t).map fun ob => (d, ob, .one (.slc d), True) else none
  | none, .box _ x => if nameOk d then (eBox d (evS fr none x)).map fun ob => (d, ob, .one (.ptr d 0), True) else none
  | none, .buildSlice t n ps => if nameOk d then (eBuildN P d (evS fr none) t n ps.toList).map fun ob => (d, ob, .one (.slc d), True) else none
  | none, .makeSlice t l c => if nameOk d then (eMakeN P ty t (evS fr none l) (evS fr none c)).map fun r => (d, r.1, .one (.slc d), r.2) else none
  | none, .call c =>
    match c.callee, c.args.toList, c.argTypes.toList with
    | .builtin .append, [s, x], [t, t2] =>
      match eAppendN P L d t t2 (evS fr none s) (evS fr none x) with
      | some (nm, ob, p) => if nameOk nm then some (nm, ob, .one (.slc nm), p) else none
      | none => none
    | _, _, _ => none
  | _, _ => none
theorem evS_cover {F frI : Fr} (hF : ∀ p ∈ frI, get F p.1 = some p.2) {x : Operand} {y : AV} (h : evS frI none x = some y) : evS F none x = some y := by
  cases x with
  | tmp t =>
    simp only [evS] at h ⊢
    cases hg : get frI t with
    | none => rw [hg] at h; cases h
    | some v =>
      rw [hg] at h
      rw [hF (t, v) (get_mem _ _ _ hg)]
      exact h
  | const v => exact h
  | func f => exact h
  | global g => exact h
theorem mapM_mono {α β : Type} {f g : α → Option β} (h : ∀ x y, f x = some y → g x = some y) : ∀ {l : List α} {ys : List β}, l.mapM f = some ys → l.mapM g = some ys
  | [], ys, e => by simpa using e
  | x :: l, ys, e => by
    rw [List.mapM_cons] at e ⊢
    obtain ⟨y, h1, e⟩ := Option.bind_eq_some_iff.1 e
    obtain ⟨zs, h2, e⟩ := Option.bind_eq_some_iff.1 e
    rw [h x y h1]
    show (l.mapM g).bind _ = _
    rw [mapM_mono h h2]
    exact e
theorem eBuildSlice_mono {P : Program} {ev ev' : Operand → Option AV} (h : ∀ x y, ev x = some y → ev' x = some y) {t : TypeId} {n : Nat} {ps : List (Nat × Operand)} {ob : LObj} (e : eBuildSlice P ev t n ps = some ob) : eBuildSlice P ev' t n ps = some ob := by
  unfold eBuildSlice at e ⊢
  split at e
  · split at e
    · split at e
      · rename_i hc
        rw [if_pos hc]
        obtain ⟨xs, h1, h2⟩ := Option.map_eq_some_iff.1 e
        refine Option.map_eq_some_iff.2 ⟨xs, mapM_mono (fun p y hp => ?_) h1, h2⟩
        obtain ⟨v, g1, g2⟩ := Option.bind_eq_some_iff.1 hp
        rw [h _ _ g1]; exact g2
      · cases e
    · cases e
  · cases e
theorem eAppend_mono {P : Program} {L L' : LL} (hL : ∀ s o, get L s = some o → get L' s = some o) {d : Nat} {t t2 : TypeId} {s x : Option AV} {r : Nat × LObj × Prop} (h : eAppend P L d t t2 s x = some r) : eAppend P L' d t t2 s x = some r := by
  have hsrc : ∀ y, srcOf L x = some y → srcOf L' x = some y := by
    intro y hy
    unfold srcOf at hy ⊢
    split at hy
    · exact hy
    · exact hy
    · rename_i s0
      cases hg : get L s0 with
      | none => rw [hg] at hy; cases hy
      | some o => rw [hg] at hy; rw [hL _ _ hg]; exact hy
    · cases hy
  unfold eAppend at h ⊢
  split at h
  · split at h
    · rename_i u ys hx
      rw [hsrc _ hx]
      split at h
      · rename_i hel
        simp only [hel, if_true]
        split at h
        · exact h
        · rename_i s0
          cases hg : get L s0 with
          | none => rw [hg] at h; cases h
          | some o => rw [hg] at h; rw [hL _ _ hg]; exact h
        · exact h
        · cases h
      · cases h
    · cases h
  · cases h
theorem eBuildN_mono {P : Program} {d : Nat} {ev ev' : Operand → Option AV} (h : ∀ x y, ev x = some y → ev' x = some y) {t : TypeId} {n : Nat} {ps : List (Nat × Operand)} {ob : LObj} (e : eBuildN P d ev t n ps = some ob) : eBuildN P d ev' t n ps = some ob := by
  unfold eBuildN at e ⊢
  split at e
  · rename_i ob' he
    rw [eBuildSlice_mono h he]; exact e
  · have hn : eBuildSlice P ev' t n ps = none := by
      unfold eBuildRow at e
      split at e
      · rename_i el x hu _
        split at e
        · rename_i u m htu hx
          unfold eBuildSlice
          rw [hu]
          simp only [htu]
          split
          · rw [List.mapM_cons, h _ _ hx]; simp [toDat, Ty.isAgg, impl]
          · rfl
        · cases e
      · cases e
    rw [hn]
    unfold eBuildRow at e ⊢
    split at e
    · rename_i el x hu _
      split at e
      · rename_i u m htu hx
        simp only [h _ _ hx, htu]
        exact e
      · cases e
    · cases e
theorem rowSrc_src {L : LL} {x : Option AV} {r : (d : Nat) × (t : Ty) × t.den × SV} (h : rowSrc L x = some r) : srcOf L x = none := by
  unfold rowSrc at h
  split at h
  · rename_i m
    split at h
    · rename_i hg
      simp only [srcOf, hg]
    · cases h
  · cases h
theorem rowSrc_mono {L L' : LL} (hL : ∀ s o, get L s = some o → get L' s = some o) {x : Option AV} {r : (d : Nat) × (t : Ty) × t.den × SV} (h : rowSrc L x = some r) : rowSrc L' x = some r := by
  unfold rowSrc at h ⊢
  split at h
  · rename_i m
    cases hg : get L m with
    | none => rw [hg] at h; cases h
    | some o => rw [hg] at h; rw [hL _ _ hg]; exact h
  · cases h
theorem eAppendN_none1 {P : Program} {L : LL} {d : Nat} {t t2 : TypeId} {x : Option AV} : eAppendN P L d t t2 none x = none := by
  have a1 : eAppend P L d t t2 none x = none := by unfold eAppend; (repeat' split) <;> first | rfl | contradiction | simp_all
  have a2 : eAppendRow P L d t t2 none x = none := by unfold eAppendRow; (repeat' split) <;> first | rfl | contradiction | simp_all
  unfold eAppendN
  rw [a1, a2]
theorem eAppendN_none2 {P : Program} {L : LL} {d : Nat} {t t2 : TypeId} {s : Option AV} : eAppendN P L d t t2 s none = none := by
  have a1 : eAppend P L d t t2 s none = none := by unfold eAppend; simp only [srcOf]; (repeat' split) <;> first | rfl | contradiction | simp_all
  have a2 : eAppendRow P L d t t2 s none = none := by unfold eAppendRow; simp only [rowSrc]; (repeat' split) <;> first | rfl | contradiction | simp_all
  unfold eAppendN
  rw [a1, a2]
theorem eAppendN_mono {P : Program} {L L' : LL} (hL : ∀ s o, get L s = some o → get L' s = some o) {d : Nat} {t t2 : TypeId} {s x : Option AV} {r : Nat × LObj × Prop} (h : eAppendN P L d t t2 s x = some r) : eAppendN P L' d t t2 s x = some r := by
  unfold eAppendN at h ⊢
  split at h
  · rename_i r' he
    rw [eAppend_mono hL he]; exact h
  · have hn : eAppend P L' d t t2 s x = none := by
      unfold eAppendRow at h
      split at h
      · split at h
        · rename_i hr
          unfold eAppend
          rw [rowSrc_src (rowSrc_mono hL hr)]
          (repeat' split) <;> first | rfl | simp_all
        · cases h
      · cases h
    rw [hn]
    unfold eAppendRow at h ⊢
    split at h
    · split at h
      · rename_i hr
        rw [rowSrc_mono hL hr]
        split at h
        · rename_i hc
          simp only [if_pos hc]
          split at h
          · exact h
          · rename_i s0 _
            cases hg : get L s0 with
            | none => rw [hg] at h; cases h
            | some o => rw [hg] at h; simp only [hL _ _ hg]; exact h
          · cases h
        · cases h
      · cases h
    · cases h
theorem cDo_step {ops : Array Oper} {i d nm : Nat} {ty : Bool} {o : Oper} {ob : LObj} {av : AV} {p : Prop} {frI : Fr} (ho : ops[i]? = some o) (hd : o.dst = some d) (hdn : d < C.n) (h : cDo C.P ty frI L d o = some (nm, ob, av, p)) (hp : p) : CStep C ops i d [nm] [(nm, ob)] av frI L := by
  intro F Lp a w hF hLp hr Q K hK
  have main : ∀ (q : List Prop), AllP q → o.guard = none → exec C.P F Lp none (some (if ty then .typed else .spec)) o = some (putF (killF nm F) d av, newL nm ob Lp, q) → wpOp C.P ops Q i K a w := by
    intro q hq hg hx
    have hK : ∀ a' w', Rel C (putF (killF nm F) d av) (newL nm ob Lp) a' w' → K a' w' := fun a' w' hr' => hK a' w' (by
      rw [show killFs [nm] F = killF nm F from rfl]
      exact hr'.less (fun s o hs => by rw [get_nextL_one] at hs; exact hs))
    obtain ⟨hh, ρ, hrel⟩ := hr
    have hw : Region.wanted o (yielded ops a.tmps) = true := by simp [Region.wanted, hg]
    have := does_of_exec hw (exec_sound hrel (fun g b e => by cases e) (fun d' e => by rw [hd] at e; obtain rfl := Option.some.inj e; exact hdn) hx hq) Q K hK
    rw [if_pos hw] at this
    unfold wpOp
    rw [ho]
    simp only
    rw [if_pos hw]
    exact .inl this
  unfold cDo at h
  split at h
  · rename_i t hg hop
    split at h
    · rename_i hn
      obtain ⟨ob', hob, he⟩ := Option.map_eq_some_iff.1 h
      simp only [Prod.mk.injEq] at he
      obtain ⟨rfl, rfl, rfl, rfl⟩ := he
      refine main [] trivial hg ?_
      unfold exec
      rw [hop, hd]
      cases ty <;> simp [hn, hob]
    · cases h
  · rename_i t hg hop
    split at h
    · rename_i hn
      obtain ⟨ob', hob, he⟩ := Option.map_eq_some_iff.1 h
      simp only [Prod.mk.injEq] at he
      obtain ⟨rfl, rfl, rfl, rfl⟩ := he
      refine main [] trivial hg ?_
      unfold exec
      rw [hop, hd]
      simp only [hn, if_true, hob, Option.map_some]
    · cases h
  · rename_i t x hg hop
    split at h
    · rename_i hn
      obtain ⟨ob', hob, he⟩ := Option.map_eq_some_iff.1 h
      simp only [Prod.mk.injEq] at he
      obtain ⟨rfl, rfl, rfl, rfl⟩ := he
      have hev : evS F none x = evS frI none x := by
        cases hx : evS frI none x with
        | none => rw [hx] at hob; simp [eBox] at hob
        | some y => rw [evS_cover hF hx]
      refine main [] trivial hg ?_
      unfold exec
      rw [hop, hd]
      simp only [hn, if_true, hev, hob, Option.map_some]
    · cases h
  · rename_i t n ps hg hop
    split at h
    · rename_i hn
      obtain ⟨ob', hob, he⟩ := Option.map_eq_some_iff.1 h
      simp only [Prod.mk.injEq] at he
      obtain ⟨rfl, rfl, rfl, rfl⟩ := he
      refine main [] trivial hg ?_
      unfold exec
      rw [hop, hd]
      simp only [hn, if_true, eBuildN_mono (fun x y => evS_cover hF) hob, Option.map_some]
    · cases h
  · rename_i t l c hg hop
    split at h
    · rename_i hn
      obtain ⟨⟨ob', p'⟩, hob, he⟩ := Option.map_eq_some_iff.1 h
      simp only [Prod.mk.injEq] at he
      obtain ⟨rfl, rfl, rfl, rfl⟩ := he
      have hi : ∀ y, iOf (evS frI none y) = none ∨ evS F none y = evS frI none y := by
        intro y
        cases hx : evS frI none y with
        | none => exact .inl rfl
        | some z => exact .inr (evS_cover hF hx)
      have hob2 : eMakeN C.P ty t (evS F none l) (evS F none c) = some (ob', p') := by
        rcases hi l with e1 | e1
        · exfalso; revert hob; unfold eMakeN eMakeRows eMake; rw [e1]; (repeat' split) <;> intro e <;> simp_all
        · rcases hi c with e2 | e2
          · exfalso; revert hob; unfold eMakeN eMakeRows eMake; rw [e2]; (repeat' split) <;> intro e <;> simp_all
          · rw [e1, e2]; exact hob
      refine main [p'] hp hg ?_
      unfold exec
      rw [hop, hd]
      cases ty <;> simp only [hn, if_true, Bool.false_eq_true, if_false] <;> simp only [hob2, Option.map_some]
    · cases h
  · rename_i c hg hop
    split at h
    · rename_i s x t t2 hcal hargs hts
      split at h
      · rename_i nm' ob' p' hap
        split at h
        · rename_i hn
          simp only [Option.some.injEq, Prod.mk.injEq] at h
          obtain ⟨rfl, rfl, rfl, rfl⟩ := h
          have hevs : evS F none s = evS frI none s := by
            cases hx : evS frI none s with
            | none => rw [hx, eAppendN_none1] at hap; cases hap
            | some y => rw [evS_cover hF hx]
          have hevx : evS F none x = evS frI none x := by
            cases hx : evS frI none x with
            | none => rw [hx, eAppendN_none2] at hap; cases hap
            | some y => rw [evS_cover hF hx]
          refine main [p'] hp hg ?_
          unfold exec
          rw [hop, hd]
          simp only [hcal, hargs, hts, hevs, hevx, eAppendN_mono hLp hap, hn, if_true]
        · cases h
      · cases h
    · cases h
  · cases h

theorem call1_step {ops : Array Oper} {i : Nat} {us : List (Option Ty)} {f : Nat} {as : List AV} {d s t : Nat} {p : Prop} {R : AV} {ob : LObj} {frI : Fr} (hc : CallAt C ops i frI us f as d p) (hp : p) (hF : FnC C.P f as [] R [(s, ob)])
    (hs : (R.within s && ob.plain && nameOk t && decide (t < 1000)) = true) : CStep C ops i d [t] [(t, ob)] (R.ren fun _ => t) frI L := by
  intro F L a w hFc hLp ⟨h, ρ, hr⟩ Q K hK
  have hrI : RelH C h ρ frI L a w := { hr with fr := fun t v ht => hr.fr t v (hFc (t, v) (get_mem _ _ _ ht)) }
  have hK : ∀ a' w', Rel C (putF (killF t F) d (R.ren fun _ => t)) (newL t ob L) a' w' → K a' w' := fun a' w' hr' => hK a' w' (by
    rw [show killFs [t] F = killF t F from rfl]
    exact hr'.less (fun s o hs => by rw [get_nextL_one] at hs; exact hs))
  simp only [Bool.and_eq_true] at hs
  obtain ⟨⟨⟨hR, hpl⟩, hnm⟩, _⟩ := hs
  have hok := hc.ok
  split at hok
  · rename_i o ho
    split at hok
    · rename_i gd q hg
      obtain ⟨⟨f', as0⟩, hcall, hd⟩ := Option.bind_eq_some_iff.1 hok
      obtain ⟨as', hco, hd⟩ := Option.bind_eq_some_iff.1 hd
      obtain ⟨d', hdst, he⟩ := Option.map_eq_some_iff.1 hd
      simp only [Prod.mk.injEq] at he
      obtain ⟨rfl, rfl, rfl, rfl⟩ := he
      obtain ⟨hw, hgd⟩ := guardIs_spec hrI hg hp
      obtain ⟨vs, hrun, hall0⟩ := callOf_spec hrI hgd hcall hc.fn
      have hall := coer_spec _ _ _ _ hco hall0
      unfold wpOp
      rw [ho]
      simp only
      rw [if_pos hw]
      left
      unfold Oper.wp
      rw [hrun, Oper.upon_enter]
      refine (hF h ρ w vs hr.heap (fun s o hs => by simp [get] at hs) (fun s s' o o' b _ hs => by simp [get] at hs) hall).mono ?_
      rintro e w' ⟨v, h', ρ', rfl, hrel, hout⟩
      refine hK _ _ ?_
      rw [hdst]
      have hext := hr.extend hout
      have hnew := hout.objs s ob (by simp [get])
      have hnew' : ORel (fun b => w.heap.size ≤ b) h' ρ' w' (ρ' s) ob := by
        refine hnew.own_mono fun b hb => ?_
        rcases (hnew.block hb).1 with h1 | ⟨t', p', ht', _⟩
        · exact h1
        · simp [get] at ht'
      have hrel2 := hext.fresh_name t hnm (ρ' s) ob w' rfl rfl rfl (Nat.le_refl _) none (fun b hb => by cases hb) (fun _ _ _ => rfl)
        ((hnew'.own_mono fun b hb => .inl (Nat.le_trans hr.grow (hnew'.block hb).1)).plain hpl) ?_ ?_
      · exact ⟨h', _, hrel2.putSlot d' _ v (of_decide_eq_true hc.lt) (hrel.within hR (by simp [upd]))⟩
      · intro b hb s' o' _ hs' hb'
        have h1 := (hnew'.block hb).1
        have h2 := ((hr.objs s' o' hs').block hb').2.2
        omega
      · intro _ b hb
        exact Nat.le_trans hr.grow (hnew'.block hb).1
    · simp at hok
  · simp at hok
theorem keep_cover {L L' : LL} (hL : ∀ s o, get L s = some o → get L' s = some o) : ∀ {ks : List Nat} {l : LL}, keep ks L = some l → keep ks L' = some l
  | [], l, h => h
  | k :: ks, l, h => by
    simp only [keep] at h ⊢
    split at h
    · rename_i v r hv hr
      rw [hL _ _ hv, keep_cover hL hr]; exact h
    · cases h
def putsOf (σ : List (Nat × Nat)) (Lout : LL) : LL := Lout.map fun p => (sig σ p.1, p.2.ren (sig σ))
theorem get_putAll' {σ : List (Nat × Nat)} : ∀ {Lo L : LL} {s : Nat}, get (putAll σ Lo L) s = match get (putsOf σ Lo) s with | some o => some o | none => get L s
  | [], L, s => rfl
  | (c, o) :: r, L, s => by
    rw [putAll, get_put]
    simp only [putsOf, List.map_cons, get]
    split
    · rfl
    · exact get_putAll'
/-- a call that is handed objects which keep their places, and changes them -/
theorem lend_step {ops : Array Oper} {i : Nat} {us : List (Option Ty)} {f : Nat} {as : List AV} {d : Nat} {p : Prop} {R : AV} {Lin Lout : LL} {frI : Fr} (σ : List (Nat × Nat))
    (hc : CallAt C ops i frI us f (as.map (AV.ren (sig σ))) d p) (hp : p) (hF : FnC C.P f as Lin R Lout)
    (hL : keep (Lin.map fun p => sig σ p.1) L = some (Lin.map fun p => (sig σ p.1, p.2.ren (sig σ)))) (hk : (lendOk σ Lin Lout && R.data) = true) : CStep C ops i d [] (putsOf σ Lout) R frI L := by
  intro F Lp a w hFc hLp ⟨h, ρ, hr⟩ Q K hK
  have hrI : RelH C h ρ frI Lp a w := { hr with fr := fun t v ht => hr.fr t v (hFc (t, v) (get_mem _ _ _ ht)) }
  have hL := keep_cover hLp hL
  simp only [Bool.and_eq_true] at hk
  obtain ⟨hk, hR⟩ := hk
  have hk0 := hk
  unfold lendOk at hk0
  simp only [Bool.and_eq_true, decide_eq_true_eq] at hk0
  obtain ⟨⟨⟨⟨hnd, hsnd⟩, _⟩, _⟩, _⟩ := hk0
  have hok := hc.ok
  split at hok
  · rename_i o ho
    split at hok
    · rename_i gd q hg
      obtain ⟨⟨f', as0⟩, hcall, hd⟩ := Option.bind_eq_some_iff.1 hok
      obtain ⟨as', hco, hd⟩ := Option.bind_eq_some_iff.1 hd
      obtain ⟨d', hdst, he⟩ := Option.map_eq_some_iff.1 hd
      simp only [Prod.mk.injEq] at he
      obtain ⟨rfl, rfl, rfl, rfl⟩ := he
      obtain ⟨hw, hgd⟩ := guardIs_spec hrI hg hp
      obtain ⟨vs, hrun, hall0⟩ := callOf_spec hrI hgd hcall hc.fn
      have hall := coer_spec _ _ _ _ hco hall0
      unfold wpOp
      rw [ho]
      simp only
      rw [if_pos hw]
      left
      unfold Oper.wp
      rw [hrun, Oper.upon_enter]
      have inL : ∀ {c o}, get Lin c = some o → get Lp (sig σ c) = some (o.ren (sig σ)) := fun hg => keep_map hL (get_mem _ _ _ hg)
      refine (hF h (fun c => ρ (sig σ c)) w vs hr.heap (fun s o hs => orel_ren.2 ((hr.objs _ _ (inL hs)).own_mono fun _ _ => trivial)) ?_ (all2_vrel_ren hall)).mono ?_
      · intro s s' o1 o2 b hne hs hs' hb
        refine hr.apart (sig σ s) (sig σ s') _ _ b (fun e => hne ?_) (inL hs) (inL hs') hb
        have := nodup_map_inj hsnd (get_mem _ _ _ hs) (get_mem _ _ _ hs') e
        simp only [Prod.mk.injEq] at this
        exact this.1
      · rintro e w' ⟨v, h', ρ', rfl, hrel, hout⟩
        refine hK _ _ ?_
        rw [hdst]
        have hr2 := hr.lend hk hL (fun _ _ e => e) hout
        have hr3 : RelH C h' ρ (killFs [] F) (nextL [] (putsOf σ Lout) Lp) a w' := by
          refine RelH.less { hr2 with fr := fun t v ht => hr2.fr t v ?_ } (fun s o hs => ?_)
          · rw [get_killFs] at ht
            obtain ⟨x, hx, rfl⟩ := Option.map_eq_some_iff.1 ht
            exact hx
          · rw [get_nextL'] at hs
            rw [get_putAll']
            cases hq : get (putsOf σ Lout) s with
            | some o' => rw [hq] at hs; exact hs
            | none =>
              rw [hq] at hs
              simp only [List.contains_nil, Bool.false_eq_true, if_false] at hs
              obtain ⟨x, hx, rfl⟩ := Option.map_eq_some_iff.1 hs
              exact hx
        refine ⟨h', ρ, hr3.putSlot d' R v (of_decide_eq_true hc.lt) ?_⟩
        cases R with
        | one x => exact SRel.ofData hR hrel
        | tup xs =>
          obtain ⟨us, rfl, hall2⟩ := hrel
          exact ⟨us, rfl, all2_ofData hR hall2⟩
        | agg _ => simp [AV.data] at hR
        | mb _ _ _ => simp [AV.data] at hR
    · simp at hok
  · simp at hok
/-- a call that is handed objects which it may lay anew -/
theorem lend2_step {ops : Array Oper} {i : Nat} {us : List (Option Ty)} {f : Nat} {as : List AV} {d : Nat} {p : Prop} {R : AV} {Lin Lout : LL} {frI : Fr} (σ : List (Nat × Nat))
    (hc : CallAt C ops i frI us f (as.map (AV.ren (sig σ))) d p) (hp : p) (hF : FnC C.P f as Lin R Lout)
    (hL : keep (Lin.map fun p => sig σ p.1) L = some (Lin.map fun p => (sig σ p.1, p.2.ren (sig σ)))) (hk : (lendOk2 σ Lin Lout && R.inN (Lin.map (·.1))) = true) : CStep C ops i d (movedOf σ Lin) (putsOf σ Lout) (R.ren (sig σ)) frI L := by
  intro F Lp a w hFc hLp ⟨h, ρ, hr⟩ Q K hK
  have hrI : RelH C h ρ frI Lp a w := { hr with fr := fun t v ht => hr.fr t v (hFc (t, v) (get_mem _ _ _ ht)) }
  have hL := keep_cover hLp hL
  simp only [Bool.and_eq_true] at hk
  obtain ⟨hk, hR⟩ := hk
  have hk0 := hk
  unfold lendOk2 at hk0
  simp only [Bool.and_eq_true, decide_eq_true_eq] at hk0
  obtain ⟨⟨⟨⟨hnd, hsnd⟩, _⟩, _⟩, _⟩ := hk0
  have hok := hc.ok
  split at hok
  · rename_i o ho
    split at hok
    · rename_i gd q hg
      obtain ⟨⟨f', as0⟩, hcall, hd⟩ := Option.bind_eq_some_iff.1 hok
      obtain ⟨as', hco, hd⟩ := Option.bind_eq_some_iff.1 hd
      obtain ⟨d', hdst, he⟩ := Option.map_eq_some_iff.1 hd
      simp only [Prod.mk.injEq] at he
      obtain ⟨rfl, rfl, rfl, rfl⟩ := he
      obtain ⟨hw, hgd⟩ := guardIs_spec hrI hg hp
      obtain ⟨vs, hrun, hall0⟩ := callOf_spec hrI hgd hcall hc.fn
      have hall := coer_spec _ _ _ _ hco hall0
      unfold wpOp
      rw [ho]
      simp only
      rw [if_pos hw]
      left
      unfold Oper.wp
      rw [hrun, Oper.upon_enter]
      have inL : ∀ {c o}, get Lin c = some o → get Lp (sig σ c) = some (o.ren (sig σ)) := fun hg => keep_map hL (get_mem _ _ _ hg)
      refine (hF h (fun c => ρ (sig σ c)) w vs hr.heap (fun s o hs => orel_ren.2 ((hr.objs _ _ (inL hs)).own_mono fun _ _ => trivial)) ?_ (all2_vrel_ren hall)).mono ?_
      · intro s s' o1 o2 b hne hs hs' hb
        refine hr.apart (sig σ s) (sig σ s') _ _ b (fun e => hne ?_) (inL hs) (inL hs') hb
        have := nodup_map_inj hsnd (get_mem _ _ _ hs) (get_mem _ _ _ hs') e
        simp only [Prod.mk.injEq] at this
        exact this.1
      · rintro e w' ⟨v, h', ρ', rfl, hrel, hout⟩
        refine hK _ _ ?_
        rw [hdst]
        obtain ⟨ρ2, hρ, hr2⟩ := hr.lend2 hk hL (fun _ _ e => e) hout
        have hr3 : RelH C h' ρ2 (killFs (movedOf σ Lin) F) (nextL (movedOf σ Lin) (putsOf σ Lout) Lp) a w' := by
          refine hr2.less (fun s o hs => ?_)
          rw [get_nextL'] at hs
          rw [get_putAll']
          cases hq : get (putsOf σ Lout) s with
          | some o' => rw [hq] at hs; exact hs
          | none =>
            rw [hq] at hs
            simp only at hs
            split at hs
            · cases hs
            · rw [get_killLs]; exact hs
        refine ⟨h', ρ2, hr3.putSlot d' _ v (of_decide_eq_true hc.lt) ?_⟩
        cases R with
        | one x => exact srel_result hρ hR hrel
        | tup xs =>
          obtain ⟨us, rfl, hall2⟩ := hrel
          exact ⟨us, rfl, all2_result hρ hR hall2⟩
        | agg _ => simp [AV.inN] at hR
        | mb _ _ _ => simp [AV.inN] at hR
    · simp at hok
  · simp at hok

/-! ### all at once -/
theorem Drawn.more {ops : Array Oper} {i d : Nat} {av : AV} {frI : Fr} {L' : LL} (h : Drawn C ops i d av frI L) (hs : ∀ s o, get L s = some o → get L' s = some o) : Drawn C ops i d av frI L' :=
  fun hh ρ a w hr Q K hK => h hh ρ a w (hr.less hs) Q K (fun h' v w' e1 e2 e3 => hK h' v w' e1 (fun frx Lx hx => e2 frx Lx (fun s o hs' => hx s o (hs s o hs'))) e3)
theorem LLq_less {ch : Chain} {k K : Nat} (hk : k ≤ K) {L : LL} (h : (L.map (·.1)).Nodup) : ∀ s o, get (LLq ch K L) s = some o → get (LLq ch k L) s = some o := by
  intro s o hs
  have hm := get_mem _ _ _ hs
  unfold LLq at hm ⊢
  obtain ⟨h1, h2⟩ := List.mem_filter.1 hm
  have hnd : ((L.filter fun e => (ch.take k).all fun c => !c.2.1.contains e.1 && !(c.2.1.any fun n => e.2.hit n) && !(c.2.2.any fun p => p.1 == e.1)).map (·.1)).Nodup := (List.Sublist.map _ List.filter_sublist).nodup h
  refine onceL_get hnd (p := (s, o)) (List.mem_filter.2 ⟨h1, ?_⟩)
  rw [List.all_eq_true] at h2 ⊢
  intro c hc
  have : ch.take k = (ch.take K).take k := by rw [List.take_take]; congr 1; omega
  rw [this] at hc
  exact h2 c (List.mem_of_mem_take hc)
theorem fm_congr {α β : Type} {f g : α → Option β} : ∀ {l : List α}, (∀ x ∈ l, f x = g x) → l.filterMap f = l.filterMap g
  | [], _ => rfl
  | x :: l, h => by rw [List.filterMap_cons, List.filterMap_cons, h x (by simp), fm_congr (fun y hy => h y (by simp [hy]))]
theorem frC_take {ch : Chain} {out : List (Nat × AV)} {base : Fr} {js : List Nat} {k i : Nat} (h : ∀ j ∈ js, j < i) : frC ch (out.take i) base js k = frC ch out base js k := by
  unfold frC
  congr 1
  refine fm_congr (fun j hj => ?_)
  rw [List.getElem?_take_of_lt (h j hj)]
theorem upto_le (ch : Chain) (ops : Array Oper) (i : Nat) : ch.upto ops i ≤ ch.length := by
  unfold Chain.upto
  split
  · rename_i q hq
    obtain ⟨hlt, _⟩ := List.findIdx?_eq_some_iff_getElem.1 hq
    omega
  · omega
def xStages (P : Program) (ops : Array Oper) (fr : Fr) (og ov : Option Orc) (d : Nat) (o : Oper) : List LL → Option (AV × List Prop)
  | [] => none
  | [L] => xDraw P ops fr L og ov d o
  | L :: r =>
    match xDraw P ops fr L og ov d o, xStages P ops fr og ov d o r with
    | some (av, p), some (av', p') => some (av, p ++ ((av' = av) :: p'))
    | _, _ => none
def stagesOf (ch : Chain) (lo hi : Nat) (L : LL) : List LL := ((List.range (hi + 1)).filter fun k => decide (lo ≤ k)).map fun k => ch.at k L
theorem xDraw_drawn {ops : Array Oper} {fr : Fr} {L : LL} {og ov : Option Orc} {i d : Nat} {o : Oper} {av : AV} {p : List Prop} (hoi : ops[i]? = some o) (hd : o.dst = some d) (hdn : d < C.n) (hk : xDraw C.P ops fr L og ov d o = some (av, p)) (hp : AllP p) : Drawn C ops i d av fr L := by
  unfold xDraw at hk
  split at hk
  · rename_i hk0
    obtain rfl := Option.some.inj hk
    exact (kDraw_drawn hoi hd hk0 hp).1
  · exact (aDraw_drawn (L := L) hoi hd hdn hk hp).1
theorem xStages_drawn {ops : Array Oper} {fr : Fr} {og ov : Option Orc} {i d : Nat} {o : Oper} (hoi : ops[i]? = some o) (hd : o.dst = some d) (hdn : d < C.n) : ∀ {Ls : List LL} {av : AV} {p : List Prop}, xStages C.P ops fr og ov d o Ls = some (av, p) → AllP p → ∀ L ∈ Ls, Drawn C ops i d av fr L
  | [], _, _, h, _, _, hm => by cases hm
  | [L], av, p, h, hp, L', hm => by
    simp only [List.mem_singleton] at hm
    subst hm
    exact xDraw_drawn hoi hd hdn h hp
  | L :: L2 :: r, av, p, h, hp, L', hm => by
    unfold xStages at h
    split at h
    · rename_i av1 p1 av2 p2 h1 h2
      simp only [Option.some.injEq, Prod.mk.injEq] at h
      obtain ⟨rfl, rfl⟩ := h
      obtain ⟨q1, q2⟩ := hp.append
      obtain ⟨q3, q4⟩ := AllP.cons' q2
      subst q3
      rcases List.mem_cons.1 hm with rfl | hm
      · exact xDraw_drawn hoi hd hdn h1 q1
      · exact xStages_drawn hoi hd hdn h2 q4 L' hm
    · cases h
theorem mem_stages {ch : Chain} {lo hi k : Nat} {L : LL} (h1 : lo ≤ k) (h2 : k ≤ hi) : ch.at k L ∈ stagesOf ch lo hi L :=
  List.mem_map.2 ⟨k, List.mem_filter.2 ⟨List.mem_range.2 (by omega), by simpa using h1⟩, rfl⟩
def entsC (P : Program) (ops : Array Oper) (base : Fr) (L : LL) (ch : Chain) (chOut : List (Nat × AV)) (orcs : List (Nat × Orc)) (cs : List (Nat × List (Option Ty) × AV)) : Nat → List Oper → List (Nat × AV) → Option (List (Nat × AV) × List Prop × List (Nat × List AV × AV))
  | _, [], acc => some (acc, [], [])
  | i, o :: r, acc =>
    match o.dst with
    | some d =>
      match get chOut i with
      | some av => entsC P ops base L ch chOut orcs cs (i + 1) r (acc ++ [(d, av)])
      | none =>
        match get cs i with
        | some (us, R) =>
          match cDraw ops (frC ch acc base (edgesOf o) (ch.upto ops i)) us o with
          | some (f, as, q) =>
            match entsC P ops base L ch chOut orcs cs (i + 1) r (acc ++ [(d, R)]) with
            | some (l, obs, calls) => some (l, q :: obs, (f, as, R) :: calls)
            | none => none
          | none => none
        | none =>
          match xDraw P ops (frC ch acc base (edgesOf o) (ch.upto ops i)) (LLq ch (ch.upto ops i) L) (get orcs (2 * i)) (get orcs (2 * i + 1)) d o with
          | some (av, p) =>
            match entsC P ops base L ch chOut orcs cs (i + 1) r (acc ++ [(d, av)]) with
            | some (l, obs, calls) => some (l, p ++ obs, calls)
            | none => none
          | none =>
            match xStages P ops (frC ch acc base (edgesOf o) (ch.upto ops i)) (get orcs (2 * i)) (get orcs (2 * i + 1)) d o (stagesOf ch (ch.lo (edgesOf o)) (ch.upto ops i) L) with
            | some (av, p) =>
              match entsC P ops base L ch chOut orcs cs (i + 1) r (acc ++ [(d, av)]) with
              | some (l, obs, calls) => some (l, p ++ obs, calls)
              | none => none
            | none => none
    | none => none

theorem entsC_spec {ops : Array Oper} {base : Fr} {ch : Chain} {chOut : List (Nat × AV)} {orcs : List (Nat × Orc)} {cs : List (Nat × List (Option Ty) × AV)} (hL : (L.map (·.1)).Nodup) : ∀ (l : List Oper) (i : Nat) (acc out : List (Nat × AV)) (obs : List Prop) (calls : List (Nat × List AV × AV)), acc.length = i →
    entsC C.P ops base L ch chOut orcs cs i l acc = some (out, obs, calls) → AllP obs → AllD C.P (LLq ch ch.length L) calls → (∀ k o, l[k]? = some o → ops[i + k]? = some o) → (∀ (k : Nat) (o : Oper) (d : Nat), ops[k]? = some o → o.dst = some d → d < C.n) →
    out.length = i + l.length ∧ (∀ k, k < i → out[k]? = acc[k]?) ∧ ∀ k o, l[k]? = some o → ∃ d av, o.dst = some d ∧ out[i + k]? = some (d, av) ∧ (get chOut (i + k) = none → ∀ s, ch.lo (edgesOf o) ≤ s → s ≤ ch.upto ops (i + k) → Drawn C ops (i + k) d av (frC ch (out.take (i + k)) base (edgesOf o) (ch.upto ops (i + k))) (ch.at s L))
  | [], i, acc, out, obs, calls, hl, h, _, _, _, _ => by
    simp only [entsC, Option.some.injEq, Prod.mk.injEq] at h
    obtain ⟨rfl, _⟩ := h
    exact ⟨by simp [hl], fun _ _ => rfl, fun k o hk => by simp at hk⟩
  | o :: l, i, acc, out, obs, calls, hl, h, ho, hcl, hops, hdn => by
    have fin : ∀ (d : Nat) (av : AV) (l' : List (Nat × AV)) (q : List Prop) (cl : List (Nat × List AV × AV)), o.dst = some d → entsC C.P ops base L ch chOut orcs cs (i + 1) l (acc ++ [(d, av)]) = some (l', q, cl) → AllP q → AllD C.P (LLq ch ch.length L) cl →
        (get chOut i = none → ∀ s, ch.lo (edgesOf o) ≤ s → s ≤ ch.upto ops i → Drawn C ops i d av (frC ch acc base (edgesOf o) (ch.upto ops i)) (ch.at s L)) → 
        l'.length = i + (o :: l).length ∧ (∀ k, k < i → l'[k]? = acc[k]?) ∧ ∀ k o', (o :: l)[k]? = some o' → ∃ d av, o'.dst = some d ∧ l'[i + k]? = some (d, av) ∧ (get chOut (i + k) = none → ∀ s, ch.lo (edgesOf o') ≤ s → s ≤ ch.upto ops (i + k) → Drawn C ops (i + k) d av (frC ch (l'.take (i + k)) base (edgesOf o') (ch.upto ops (i + k))) (ch.at s L)) := by
      intro d av l' q cl hd he hq hcl' hdr
      obtain ⟨h1, h2, h3⟩ := entsC_spec hL l (i + 1) (acc ++ [(d, av)]) l' q cl (by simp [hl]) he hq hcl' (fun k o' hk => by
        have := hops (k + 1) o' (by simpa using hk)
        rwa [show i + (k + 1) = i + 1 + k by omega] at this) hdn
      have hacc : l'.take i = acc := by
        apply List.ext_getElem?
        intro k
        rw [List.getElem?_take]
        split
        · rename_i hk
          rw [h2 k (by omega), List.getElem?_append_left (by omega)]
        · rw [List.getElem?_eq_none (by omega)]
      refine ⟨by rw [h1]; simp; omega, fun k hk => ?_, fun k o' hk => ?_⟩
      · rw [h2 k (by omega), List.getElem?_append_left (by omega)]
      · cases k with
        | zero =>
          simp only [List.getElem?_cons_zero, Option.some.injEq] at hk
          subst hk
          refine ⟨d, av, hd, ?_, ?_⟩
          · rw [Nat.add_zero, h2 i (by omega), List.getElem?_append_right (by omega)]; simp [hl]
          · rw [Nat.add_zero, hacc]; exact hdr
        | succ k =>
          obtain ⟨d', av', a1, a2, a3⟩ := h3 k o' (by simpa using hk)
          have e : i + 1 + k = i + (k + 1) := by omega
          rw [e] at a2 a3
          exact ⟨d', av', a1, a2, a3⟩
    have hoi : ops[i]? = some o := by simpa using hops 0 o rfl
    simp only [entsC] at h
    split at h
    · rename_i d hd
      split at h
      · rename_i av hco
        exact fin d av _ _ _ hd h ho hcl (fun e => by rw [hco] at e; cases e)
      · split at h
        · rename_i us R hcs
          split at h
          · rename_i f as q hcd
            split at h
            · rename_i l' obs' calls' he
              simp only [Option.some.injEq, Prod.mk.injEq] at h
              obtain ⟨rfl, rfl, rfl⟩ := h
              obtain ⟨hq1, hq2⟩ := AllP.cons' ho
              obtain ⟨⟨hfn, hR, σ, as0, Lin, e0, hF, hLk, hk⟩, hcl2⟩ := hcl
              subst e0
              exact fin d R _ _ _ hd he hq2 hcl2 (fun _ s _ hs => (cDrawL_drawn σ hoi hd hcd hq1 hfn hF hLk (by rw [hk, hR]; rfl)).more (LLq_cover (Nat.le_trans hs (upto_le ch ops i)) hL))
            · simp at h
          · simp at h
        · split at h
          · rename_i av p hk
            split at h
            · rename_i l' obs' calls' he
              simp only [Option.some.injEq, Prod.mk.injEq] at h
              obtain ⟨rfl, rfl, rfl⟩ := h
              obtain ⟨hq1, hq2⟩ := ho.append
              exact fin d av _ _ _ hd he hq2 hcl (fun _ s _ hs => (xDraw_drawn hoi hd (hdn i o d hoi hd) hk hq1).more (LLq_cover hs hL))
            · simp at h
          · split at h
            · rename_i av p hk
              split at h
              · rename_i l' obs' calls' he
                simp only [Option.some.injEq, Prod.mk.injEq] at h
                obtain ⟨rfl, rfl, rfl⟩ := h
                obtain ⟨hq1, hq2⟩ := ho.append
                exact fin d av _ _ _ hd he hq2 hcl (fun _ s hs1 hs2 => xStages_drawn hoi hd (hdn i o d hoi hd) hk hq1 _ (mem_stages hs1 hs2))
              · simp at h
            · simp at h
    · simp at h

def AllCh (C : Ctx) (ops : Array Oper) (ch : Chain) (out : List (Nat × AV)) (base : Fr) (L : LL) : Nat → Chain → Prop
  | _, [] => True
  | q, c :: r => (∃ o d av, ops[c.1]? = some o ∧ o.dst = some d ∧ out[c.1]? = some (d, av) ∧ CStep C ops c.1 d c.2.1 c.2.2 av (frC ch out base (edgesOf o) q) (ch.at q L)) ∧ AllCh C ops ch out base L (q + 1) r
theorem allCh_at {ops : Array Oper} {ch : Chain} {out : List (Nat × AV)} {base : Fr} : ∀ (r : Chain) (q : Nat), AllCh C ops ch out base L q r → ∀ k c, r[k]? = some c → ∃ o d av, ops[c.1]? = some o ∧ o.dst = some d ∧ out[c.1]? = some (d, av) ∧ CStep C ops c.1 d c.2.1 c.2.2 av (frC ch out base (edgesOf o) (q + k)) (ch.at (q + k) L)
  | [], q, _, k, c, h => by simp at h
  | c0 :: r, q, h, 0, c, hc => by
    simp only [List.getElem?_cons_zero, Option.some.injEq] at hc
    subst hc
    exact h.1
  | c0 :: r, q, h, k + 1, c, hc => by
    have := allCh_at r (q + 1) h.2 k c (by simpa using hc)
    rwa [show q + 1 + k = q + (k + 1) by omega] at this
/-- the operation at i, as a step of the chain -/
def cAt (P : Program) (n : Nat) (ty : Bool) (ops : Array Oper) (ch : Chain) (out : List (Nat × AV)) (base : Fr) (L : LL) (q i : Nat) : Option (Nat × Nat × LObj × AV × Prop) :=
  match ops[i]? with
  | some o => match o.dst with
    | some d => if d < n then (cDo P ty (frC ch out base (edgesOf o) q) (ch.at q L) d o).map fun r => (d, r) else none
    | none => none
  | none => none
theorem cAt_step {ty : Bool} {ops : Array Oper} {ch : Chain} {out : List (Nat × AV)} {base : Fr} {q i d nm : Nat} {ob : LObj} {av : AV} {p : Prop} (h : cAt C.P C.n ty ops ch out base L q i = some (d, nm, ob, av, p)) (hp : p) :
    ∃ o, ops[i]? = some o ∧ o.dst = some d ∧ CStep C ops i d [nm] [(nm, ob)] av (frC ch out base (edgesOf o) q) (ch.at q L) := by
  unfold cAt at h
  split at h
  · rename_i o ho
    split at h
    · rename_i d' hd
      split at h
      · rename_i hdn
        obtain ⟨⟨r1, r2, r3, r4⟩, hr, he⟩ := Option.map_eq_some_iff.1 h
        simp only [Prod.mk.injEq] at he
        obtain ⟨rfl, rfl, rfl, rfl, rfl⟩ := he
        exact ⟨o, ho, hd, cDo_step ho hd hdn hr hp⟩
      · cases h
    · cases h
  · cases h
theorem chNil {ops : Array Oper} {ch : Chain} {out : List (Nat × AV)} {base : Fr} {q : Nat} : AllCh C ops ch out base L q [] := trivial
theorem chDo {ty : Bool} {ops : Array Oper} {ch r : Chain} {out : List (Nat × AV)} {base : Fr} {q i d nm : Nat} {ob : LObj} {av : AV} {p : Prop} (h : cAt C.P C.n ty ops ch out base L q i = some (d, nm, ob, av, p)) (hp : p) (ho : out[i]? = some (d, av)) (t : AllCh C ops ch out base L (q + 1) r) :
    AllCh C ops ch out base L q ((i, [nm], [(nm, ob)]) :: r) := by
  obtain ⟨o, h1, h2, h3⟩ := cAt_step h hp
  exact ⟨⟨o, d, av, h1, h2, ho, h3⟩, t⟩
theorem chFz {ty : Bool} {ops : Array Oper} {ch r : Chain} {out : List (Nat × AV)} {base : Fr} {q i d nm : Nat} {u : Ty} {xs : List u.den} {p : Prop} (h : cAt C.P C.n ty ops ch out base L q i = some (d, nm, .seq u xs, .one (.slc nm), p)) (hp : p) (hlt : decide (nm < 1000) = true) (ho : out[i]? = some (d, .one (.dat (.slice u) xs))) (t : AllCh C ops ch out base L (q + 1) r) :
    AllCh C ops ch out base L q ((i, [nm], []) :: r) := by
  obtain ⟨o, h1, h2, h3⟩ := cAt_step h hp
  exact ⟨⟨o, d, _, h1, h2, ho, h3.frz hlt⟩, t⟩
theorem chCall {ops : Array Oper} {ch r : Chain} {out : List (Nat × AV)} {base : Fr} {q i : Nat} {us : List (Option Ty)} {f : Nat} {as : List AV} {d s t : Nat} {p : Prop} {R : AV} {ob : LObj}
    (hc : CallAt C ops i (frC ch out base (match ops[i]? with | some o => edgesOf o | none => []) q) us f as d p) (hp : p) (hF : FnC C.P f as [] R [(s, ob)]) (hs : (R.within s && ob.plain && nameOk t && decide (t < 1000)) = true)
    (ho : out[i]? = some (d, R.ren fun _ => t)) (tl : AllCh C ops ch out base L (q + 1) r) : AllCh C ops ch out base L q ((i, [t], [(t, ob)]) :: r) := by
  have hst := call1_step (L := ch.at q L) hc hp hF hs
  have hok := hc.ok
  split at hok
  · rename_i o hoi
    rw [hoi] at hst
    have hd : o.dst = some d := by
      split at hok
      · rename_i gd q' hg
        obtain ⟨⟨f', as0⟩, hcall, hd⟩ := Option.bind_eq_some_iff.1 hok
        obtain ⟨as', hco, hd⟩ := Option.bind_eq_some_iff.1 hd
        obtain ⟨d', hdst, he⟩ := Option.map_eq_some_iff.1 hd
        simp only [Prod.mk.injEq] at he
        rw [hdst, he.2.2.1]
      · cases hok
    exact ⟨⟨o, d, _, hoi, hd, ho, hst⟩, tl⟩
  · cases hok
theorem callAt_dst {ops : Array Oper} {i : Nat} {frI : Fr} {us : List (Option Ty)} {f : Nat} {as : List AV} {d : Nat} {p : Prop} (hc : CallAt C ops i frI us f as d p) : ∃ o, ops[i]? = some o ∧ o.dst = some d := by
  have hok := hc.ok
  split at hok
  · rename_i o hoi
    refine ⟨o, hoi, ?_⟩
    split at hok
    · obtain ⟨⟨f', as0⟩, hcall, hd⟩ := Option.bind_eq_some_iff.1 hok
      obtain ⟨as', hco, hd⟩ := Option.bind_eq_some_iff.1 hd
      obtain ⟨d', hdst, he⟩ := Option.map_eq_some_iff.1 hd
      simp only [Prod.mk.injEq] at he
      rw [hdst, he.2.2.1]
    · cases hok
  · cases hok
theorem chLend {ops : Array Oper} {ch r : Chain} {out : List (Nat × AV)} {base : Fr} {q i : Nat} {us : List (Option Ty)} {f : Nat} {as : List AV} {d : Nat} {p : Prop} {R : AV} {Lin Lout puts : LL} (σ : List (Nat × Nat))
    (hc : CallAt C ops i (frC ch out base (match ops[i]? with | some o => edgesOf o | none => []) q) us f (as.map (AV.ren (sig σ))) d p) (hp : p) (hF : FnC C.P f as Lin R Lout)
    (hL : keep (Lin.map fun p => sig σ p.1) (ch.at q L) = some (Lin.map fun p => (sig σ p.1, p.2.ren (sig σ)))) (hk : (lendOk σ Lin Lout && R.data) = true) (hputs : puts = putsOf σ Lout)
    (ho : out[i]? = some (d, R)) (tl : AllCh C ops ch out base L (q + 1) r) : AllCh C ops ch out base L q ((i, [], puts) :: r) := by
  have hst := lend_step (L := ch.at q L) σ hc hp hF hL hk
  obtain ⟨o, hoi, hd⟩ := callAt_dst hc
  rw [hoi] at hst
  subst hputs
  exact ⟨⟨o, d, _, hoi, hd, ho, hst⟩, tl⟩
theorem chLend2 {ops : Array Oper} {ch r : Chain} {out : List (Nat × AV)} {base : Fr} {q i : Nat} {us : List (Option Ty)} {f : Nat} {as : List AV} {d : Nat} {p : Prop} {R : AV} {Lin Lout puts : LL} {ns : List Nat} (σ : List (Nat × Nat))
    (hc : CallAt C ops i (frC ch out base (match ops[i]? with | some o => edgesOf o | none => []) q) us f (as.map (AV.ren (sig σ))) d p) (hp : p) (hF : FnC C.P f as Lin R Lout)
    (hL : keep (Lin.map fun p => sig σ p.1) (ch.at q L) = some (Lin.map fun p => (sig σ p.1, p.2.ren (sig σ)))) (hk : (lendOk2 σ Lin Lout && R.inN (Lin.map (·.1))) = true) (hns : ns = movedOf σ Lin) (hputs : puts = putsOf σ Lout)
    (ho : out[i]? = some (d, R.ren (sig σ))) (tl : AllCh C ops ch out base L (q + 1) r) : AllCh C ops ch out base L q ((i, ns, puts) :: r) := by
  have hst := lend2_step (L := ch.at q L) σ hc hp hF hL hk
  obtain ⟨o, hoi, hd⟩ := callAt_dst hc
  rw [hoi] at hst
  subst hputs hns
  exact ⟨⟨o, d, _, hoi, hd, ho, hst⟩, tl⟩
def AllMk (C : Ctx) (ops : Array Oper) (out : List (Nat × AV)) : Makers → Prop
  | [] => True
  | e :: r => (∃ av, out[e.1]? = some (e.2.1, av) ∧ CStep C ops e.1 e.2.1 [e.2.1] [(e.2.1, e.2.2)] av [] []) ∧ AllMk C ops out r
theorem allMk_at {ops : Array Oper} {out : List (Nat × AV)} : ∀ {mk : Makers}, AllMk C ops out mk → ∀ e ∈ mk, ∃ av, out[e.1]? = some (e.2.1, av) ∧ CStep C ops e.1 e.2.1 [e.2.1] [(e.2.1, e.2.2)] av [] []
  | [], _, e, he => by cases he
  | x :: r, h, e, he => by
    rcases List.mem_cons.1 he with rfl | he
    · exact h.1
    · exact allMk_at h.2 e he
theorem mkNil {ops : Array Oper} {out : List (Nat × AV)} : AllMk C ops out [] := trivial
theorem mkDo {ty : Bool} {ops : Array Oper} {out : List (Nat × AV)} {r : Makers} {i d : Nat} {ob : LObj} {av : AV} {p : Prop} (h : cAt C.P C.n ty ops [] [] [] [] 0 i = some (d, d, ob, av, p)) (hp : p) (ho : out[i]? = some (d, av)) (t : AllMk C ops out r) : AllMk C ops out ((i, d, ob) :: r) := by
  obtain ⟨o, h1, h2, h3⟩ := cAt_step h hp
  refine ⟨⟨av, ho, ?_⟩, t⟩
  have e1 : frC [] [] [] (edgesOf o) 0 = [] := by
    unfold frC
    simp
  rw [e1] at h3
  exact h3
theorem W_drawC5 {B : Code} {p : List Nat} {Q : Post} {fr' : Fr} {L' : LL} (m : Nat) (ch : Chain) (mk : Makers) (chOut : List (Nat × AV)) (orcs : List (Nat × Orc)) (cs : List (Nat × List (Option Ty) × AV)) (kF kL : List Nat) {out : List (Nat × AV)} {obs : List Prop} {calls : List (Nat × List AV × AV)} (hdr : isDraw (nav B p) = true)
    (hm : C.P.follows .mixedOrders = true) (hok : (drawOkT (opsOf (nav B p)) m [] && dstOk C.n (opsOf (nav B p)) && once fr && once (baseFr (opsOf (nav B p)) m fr) && chOk (opsOf (nav B p)) m ch L out && mkOk (opsOf (nav B p)) m mk ch (baseFr (opsOf (nav B p)) m fr) L out) = true) (hco : (chOut.all fun e => (ch.any fun c => c.1 == e.1) || (mk.any fun c => c.1 == e.1)) = true)
    (he : entsC C.P (opsOf (nav B p)) (baseFr (opsOf (nav B p)) m fr) L ch chOut orcs cs 0 ((opsOf (nav B p)).toList.take m) [] = some (out, obs, calls)) (ho : AllP obs) (hc : AllD C.P (LLq ch ch.length L) calls)
    (hch : AllCh C (opsOf (nav B p)) ch out (baseFr (opsOf (nav B p)) m fr) L 0 ch) (hmk : AllMk C (opsOf (nav B p)) out mk)
    (hk : restr kF kL (frC ch out (baseFr (opsOf (nav B p)) m fr) (List.range m) ch.length) (mkAll mk ++ ch.at ch.length L) = some (fr', L')) (hn : WO C (opsOf (nav B p)) m (normQ Q) fr' L') : W C (nav B p) Q fr L := by
  have hok' := hok
  simp only [Bool.and_eq_true] at hok'
  obtain ⟨⟨⟨⟨⟨hk1, hk2⟩, _⟩, _⟩, hk5⟩, _⟩ := hok'
  have hL : (L.map (·.1)).Nodup := by
    unfold chOk at hk5
    simp only [Bool.and_eq_true] at hk5
    exact of_decide_eq_true hk5.1.2
  have hmle : m ≤ (opsOf (nav B p)).size := (drawOkT_parts hk1).1
  obtain ⟨h1, _, h3⟩ := entsC_spec hL _ 0 [] out obs calls rfl he ho hc (fun k o hk => by
    rw [Nat.zero_add]
    have : k < m := by
      have := (List.getElem?_eq_some_iff.1 hk).1
      simp at this; omega
    rw [List.getElem?_take_of_lt this] at hk
    simpa using hk) (fun k o d hk hd => dstOk_spec hk2 hk hd)
  have h3' : ∀ i o, i < m → (opsOf (nav B p))[i]? = some o → ∃ d av, o.dst = some d ∧ out[i]? = some (d, av) ∧ (get chOut i = none → ∀ s, ch.lo (edgesOf o) ≤ s → s ≤ ch.upto (opsOf (nav B p)) i → Drawn C (opsOf (nav B p)) i d av (frC ch (out.take i) (baseFr (opsOf (nav B p)) m fr) (edgesOf o) (ch.upto (opsOf (nav B p)) i)) (ch.at s L)) := by
    intro i o hi hoi
    have := h3 i o (by rw [List.getElem?_take_of_lt hi]; simpa using hoi)
    simpa using this
  refine W_drawC m ch mk hdr hm hok (by rw [h1]; simp; omega) (fun i o hi hoi => ?_) (fun i o d av hi hoi hq hqm hd hout s hs1 hs2 => ?_) (fun q c o d av hqc hoc hd hout => ?_) (allMk_at hmk) (WO_weaken kF kL hk hn)
  · obtain ⟨d, av, a1, a2, _⟩ := h3' i o hi hoi
    exact ⟨d, av, a1, a2⟩
  · obtain ⟨d', av', a1, a2, a3⟩ := h3' i o hi hoi
    rw [hout] at a2
    simp only [Option.some.injEq, Prod.mk.injEq] at a2
    obtain ⟨rfl, rfl⟩ := a2
    have hnone : get chOut i = none := by
      cases hg : get chOut i with
      | none => rfl
      | some v =>
        have := List.all_eq_true.1 hco _ (get_mem _ _ _ hg)
        rcases Bool.or_eq_true_iff.1 this with this | this
        · obtain ⟨c, hcm, he⟩ := List.any_eq_true.1 this
          exact (hq c hcm (by simpa using he)).elim
        · obtain ⟨c, hcm, he⟩ := List.any_eq_true.1 this
          exact (hqm c hcm (by simpa using he)).elim
    have := a3 hnone s hs1 hs2
    rwa [frC_take (fun j hj => (edges_ltT hk1 hoi).1 j hj)] at this
  · obtain ⟨o', d', av', b1, b2, b3, b4⟩ := allCh_at ch 0 hch q c hqc
    rw [hoc] at b1
    obtain rfl := Option.some.inj b1
    rw [hout] at b3
    simp only [Option.some.injEq, Prod.mk.injEq] at b3
    obtain ⟨rfl, rfl⟩ := b3
    simpa using b4
end
end Go.Sl
