/- Each operation of the translated code does what the pure machine says. No condition. -/
import Derived.Test.YtjejjokdbbedlaaVmJ
namespace Go.Proofs.Ytjejjokdbbedlaa.Vm
open Go Go.RowKit
set_option linter.unusedVariables false
set_option linter.unusedSimpArgs false
set_option linter.unusedSectionVars false
section
variable {P : Program} {w0 : Base} {S0 : Nat → Nat → Prop} {N : Nat} {ρ : Nat → Nat × Nat} {S : Nat → Nat → Prop} {st st' : St} {a : Act} {w : World} {call : FuncId → List DV → Option DV}
  {K : Act → World → Prop} {Q : Exit → Act → World → Prop}

theorem wp_value {o : Oper} {u : Value} {w1 : World} (hr : (execOp a.eval o).run P w = .ok (.value u) w1) (h : K (a.put o.dst u) w1) : o.wp P a w K Q := by
  unfold Oper.wp
  rw [hr]
  exact h
theorem wp_skip' {o : Oper} {w1 : World} (hr : (execOp a.eval o).run P w = .ok .skip w1) (h : K (a.put o.dst undef) w1) : o.wp P a w K Q := by
  unfold Oper.wp
  rw [hr]
  exact h

theorem val_op (hI : Inv w0 S0 N ρ S st a w) {o : Oper} {op : AOp} (hd : ∀ d, o.dst = some d → d < N) (h : opStep call o.dst op st = some st') (hK : ∀ a' w', InvE w0 S0 N st' a' w' → K a' w')
    (hstep : ∀ t, opStep call (some t) op st = (aVal st op).map fun v => st.put t v.strip) (hnone : opStep call none op st = none)
    (hv : ∀ av, aVal st op = some av → ∃ u, (execOp a.eval o).run P w = .ok (.value u) w ∧ RdA w S ρ av u) : o.wp P a w K Q := by
  cases hdst : o.dst with
  | none => rw [hdst, hnone] at h; cases h
  | some t =>
    rw [hdst, hstep t] at h
    simp only [Option.map_eq_some_iff] at h
    obtain ⟨av, hav, rfl⟩ := h
    obtain ⟨u, hr, hu⟩ := hv av hav
    refine wp_value hr (hK _ _ ⟨ρ, S, ?_⟩)
    rw [hdst]
    exact hI.put (hd t hdst) hu.strip (fun t' want x he => by cases av <;> simp [AV.strip] at he)

/-- an operation that makes an object of the call's own -/
theorem new_op {o : Oper} {t : Nat} (hdst : o.dst = some t) (hK : ∀ a' w', InvE w0 S0 N st' a' w' → K a' w')
    (hv : ∃ u w1, (execOp a.eval o).run P w = .ok (.value u) w1 ∧ InvE w0 S0 N st' (a.put (some t) u) w1) : o.wp P a w K Q := by
  obtain ⟨u, w1, hr, hi⟩ := hv
  refine wp_value hr (hK _ _ ?_)
  rw [hdst]
  exact hi

theorem guard_sound (hI : Inv w0 S0 N ρ S st a w) {t : Nat} {b : Bool} (h : st.env t = .d (.bool b)) : a.tmps[t]? = some (.bool b) := by
  have h1 := bool_of (hI.env t) h
  rw [Array.getD_eq_getD_getElem?] at h1
  cases hx : a.tmps[t]? with
  | none => rw [hx] at h1; simp [undef] at h1
  | some v => rw [hx] at h1; simp at h1; rw [h1]

theorem Inv.under (hI : Inv w0 S0 N ρ S st a w) {t : Nat} {want : Bool} (ht : a.tmps[t]? = some (.bool want)) : Inv w0 S0 N ρ S (st.under t want) a w := by
  refine ⟨hI.size, hI.defers, fun n => ?_, fun n t' want' v he h => ?_, fun n t' want' v he h => ?_, hI.seg, hI.apart, hI.live, hI.up, hI.new, hI.below⟩
  · simp only [St.under]
    have h1 := hI.env n
    cases he : st.env n <;> simp only [AV.un] <;> try (rw [he] at h1; exact h1)
    rename_i t' want' v
    split
    · rename_i hc
      obtain ⟨rfl, rfl⟩ := hc
      exact (hI.whens n _ _ v he ht).strip
    · simp only [RdA]
  · simp only [St.under] at he
    cases he2 : st.env n <;> simp only [he2, AV.un, reduceCtorEq] at he
    rename_i t2 want2 v2
    split at he
    · cases v2 <;> simp [AV.strip] at he
    · cases he
      exact hI.whens n _ _ _ he2 h
  · simp only [St.under] at he
    cases he2 : st.env n <;> simp only [he2, AV.un, reduceCtorEq] at he
    rename_i t2 want2 v2
    split at he
    · cases v2 <;> simp [AV.strip] at he
    · cases he
      exact hI.nots n _ _ _ he2 h
theorem Inv.know (hI : Inv w0 S0 N ρ S st a w) {t : Nat} {b : Bool} (ht : a.tmps[t]? = some (.bool b)) : Inv w0 S0 N ρ S (st.know t b) a w := by
  have hu := hI.under ht
  refine ⟨hI.size, hI.defers, fun n => ?_, fun n t' want' v he h => ?_, fun n t' want' v he h => ?_, hI.seg, hI.apart, hI.live, hI.up, hI.new, hI.below⟩
  · simp only [St.know]
    split
    · rename_i hn
      subst hn
      simp only [RdA, RdD, Array.getD_eq_getD_getElem?, ht, Option.getD_some]
    · exact hu.env n
  · simp only [St.know] at he
    split at he
    · cases he
    · exact hu.whens n t' want' v he h
  · simp only [St.know] at he
    split at he
    · cases he
    · exact hu.nots n t' want' v he h
theorem not_undef {t : Nat} {want : Bool} (h : a.tmps[t]? = some (.bool want)) : a.tmps.getD t undef ≠ undef := by
  simp [Array.getD_eq_getD_getElem?, h, undef]
theorem up_so (hI : Inv w0 S0 N ρ S st a w) {t t1 : Nat} {want w1 : Bool} {x : AV} (he : st.env t = .w t1 w1 x) (ht : a.tmps[t]? = some (.bool want)) : a.tmps[t1]? = some (.bool w1) := by
  false_or_by_contra
  rename_i h
  exact not_undef ht (hI.nots t t1 w1 x he h)
theorem hypL_sound (hI : Inv w0 S0 N ρ S st a w) : ∀ (up : List (Nat × Bool)) (t : Nat) (want : Bool) (h : St), st.hypL t want up = some h → a.tmps[t]? = some (.bool want) → Inv w0 S0 N ρ S h a w
  | [], t, want, h, hh, ht => by
    simp only [St.hypL] at hh
    split at hh
    · cases hh
      exact hI.under ht
    · cases hh
  | (t', want') :: up, t, want, h, hh, ht => by
    simp only [St.hypL] at hh
    split at hh
    · cases hh
      exact hI.under ht
    · rename_i t1 w1 x he
      split at hh
      · rename_i hc
        obtain ⟨rfl, rfl⟩ := hc
        simp only [Option.map_eq_some_iff] at hh
        obtain ⟨h0, hh0, rfl⟩ := hh
        exact (hypL_sound hI up _ _ h0 hh0 (up_so hI he ht)).under ht
      · cases hh
    · cases hh
theorem dead_sound (hI : Inv w0 S0 N ρ S st a w) : ∀ (up : List (Nat × Bool)) (t : Nat) (want : Bool), st.dead t want up = true → a.tmps[t]? ≠ some (.bool want)
  | [], t, want, hh, ht => by
    simp only [St.dead] at hh
    split at hh
    · rename_i b hb
      rw [guard_sound hI hb] at ht
      simp only [Option.some.injEq, Value.bool.injEq] at ht
      subst ht
      simp at hh
    · cases hh
  | (t', want') :: up, t, want, hh, ht => by
    simp only [St.dead] at hh
    split at hh
    · rename_i b hb
      rw [guard_sound hI hb] at ht
      simp only [Option.some.injEq, Value.bool.injEq] at ht
      subst ht
      simp at hh
    · rename_i t1 w1 x he
      simp only [Bool.and_eq_true, Bool.or_eq_true, decide_eq_true_eq] at hh
      obtain ⟨⟨rfl, rfl⟩, hh⟩ := hh
      have hup := up_so hI he ht
      rcases hh with hh | hh
      · split at hh
        · rename_i b
          have h1 := hI.whens t _ _ _ he hup
          simp only [RdA, RdD, Array.getD_eq_getD_getElem?, ht, Option.getD_some, Value.bool.injEq] at h1
          subst h1
          simp at hh
        · cases hh
      · exact dead_sound hI up _ _ hh hup
    · cases hh
theorem branch_sound (hI : Inv w0 S0 N ρ S st a w) : ∀ (up : List (Nat × Bool)) (t : Nat) (want r : Bool) (st1 : St), st.branch t want up = some (r, st1) → Inv w0 S0 N ρ S st1 a w ∧ (r = true ↔ a.tmps[t]? = some (.bool want))
  | [], t, want, r, st1, hh => by
    simp only [St.branch] at hh
    split at hh
    · rename_i b hb
      cases hh
      have ht := guard_sound hI hb
      exact ⟨hI.know ht, by rw [ht]; simp⟩
    · cases hh
  | (t', want') :: up, t, want, r, st1, hh => by
    simp only [St.branch] at hh
    split at hh
    · rename_i b hb
      cases hh
      have ht := guard_sound hI hb
      exact ⟨hI.know ht, by rw [ht]; simp⟩
    · rename_i t1 w1 x he
      split at hh
      · rename_i hc
        obtain ⟨rfl, rfl⟩ := hc
        split at hh
        · rename_i st2 hb
          obtain ⟨h1, h2⟩ := branch_sound hI up _ _ _ _ hb
          split at hh
          · rename_i b hb2
            cases hh
            have ht := guard_sound h1 hb2
            exact ⟨h1.know ht, by rw [ht]; simp⟩
          · cases hh
        · rename_i st2 hb
          cases hh
          obtain ⟨h1, h2⟩ := branch_sound hI up _ _ _ _ hb
          refine ⟨h1, ?_⟩
          simp only [Bool.false_eq_true, false_iff]
          intro ht
          have := h2.2 (up_so hI he ht)
          cases this
        · cases hh
      · cases hh
    · cases hh

/-! ### calls -/
theorem Sall_lt (hI : Inv w0 S0 N ρ S st a w) : ∀ b o, Sall st ρ S b o → b < w.heap.size := by
  rintro b o (h | ⟨s, ob, hs, rfl⟩)
  · exact hI.live b o h
  · exact (hI.seg s ob hs).lt.2.1

theorem Inv.freeze (hI : Inv w0 S0 N ρ S st a w) : Inv w0 S0 N ρ (Sall st ρ S) st.freeze a w := by
  refine ⟨hI.size, hI.defers, fun t => ?_, fun n t want v he _ => ?_, fun n t want v he _ => ?_, fun s o h => by simp [St.freeze] at h, fun s s' o o' h => by simp [St.freeze] at h, Sall_lt hI, fun b o h => .inl (hI.up b o h), ?_, hI.below⟩
  · simp only [St.freeze]
    split
    · rename_i x hx
      simp only [RdA]
      exact snap_all hI hx (hI.env t)
    · simp only [RdA]
  · simp only [St.freeze] at he
    split at he <;> cases he
  · simp only [St.freeze] at he
    split at he <;> cases he
  · rintro b o (h | ⟨s, ob, hs, rfl⟩)
    · exact hI.new b o h
    · exact .inr (hI.seg s ob hs).lt.1

theorem OwnAt.plain {B : Nat → Prop} {S' : Nat → Nat → Prop} {el sz g : Nat} {es : List (List DV)} {v : Value} (h : OwnAt B w S el sz es v g) (hp : plainLL es = true) (hS : ∀ o, ¬ S' g o) : OwnAt B w S' el sz es v g := by
  obtain ⟨cap, h1, h2, h3⟩ := h
  refine ⟨cap, h1, h2, h3.mono rfl hS fun i j u hu e c he hc => ?_⟩
  have := plainL_at e (plainLL_at es hp e (List.mem_of_getElem? he)) c (List.mem_of_getElem? hc)
  exact plain_any c u this.1 this.2 (hu e c he hc)
theorem ResL.plain {B : Nat → Prop} {S' : Nat → Nat → Prop} (hS : ∀ g o, ¬ B g → ¬ S' g o) : ∀ (rs : List DV) (vs : List Value) (gs : List Nat), (∀ r ∈ rs, r.plain = true) → ResL B w S rs vs gs → ResL B w S' rs vs gs
  | [], vs, gs, _, h => by simpa only [ResL] using h
  | r :: rs, vs, gs, hp, h => by
    have hpr := hp r (by simp)
    have hps : ∀ r ∈ rs, r.plain = true := fun r hr => hp r (by simp [hr])
    by_cases hown : ∃ el sz es, r = .sl (.own el) sz es
    · obtain ⟨el, sz, es, rfl⟩ := hown
      simp only [ResL] at h ⊢
      obtain ⟨v, vs', g, gs', rfl, rfl, ho, hng, hrest⟩ := h
      exact ⟨v, vs', g, gs', rfl, rfl, ho.plain (by simpa only [DV.plain] using hpr) (fun o => hS g o ho.choose_spec.2.2.base), hng, ResL.plain hS rs vs' gs' hps hrest⟩
    · have hown2 : ¬ ∃ el sz es, r = .sl (.own2 el) sz es := by
        rintro ⟨el, sz, es, rfl⟩
        simp [DV.plain] at hpr
      have hres : ∃ v vs', vs = v :: vs' ∧ RdD w S r v ∧ ResL B w S rs vs' gs := by
        cases r <;> try (simpa only [ResL] using h)
        rename_i k sz es
        cases k <;> first | (simpa only [ResL] using h) | exact absurd ⟨_, _, _, rfl⟩ hown | exact absurd ⟨_, _, _, rfl⟩ hown2
      obtain ⟨v, vs', rfl, h1, h2⟩ := hres
      have hro : r.isOwn = false := by
        cases r <;> try rfl
        rename_i k sz es
        cases k <;> first | rfl | exact absurd ⟨_, _, _, rfl⟩ hown | exact absurd ⟨_, _, _, rfl⟩ hown2
      have hgoal : ∃ v' vs'', v :: vs' = v' :: vs'' ∧ RdD w S' r v' ∧ ResL B w S' rs vs'' gs := ⟨v, vs', rfl, plain_any r v hpr hro h1, ResL.plain hS rs vs' gs hps h2⟩
      cases r <;> try (simpa only [ResL] using hgoal)
      rename_i k sz es
      cases k <;> first | (simpa only [ResL] using hgoal) | exact absurd ⟨_, _, _, rfl⟩ hown | exact absurd ⟨_, _, _, rfl⟩ hown2
theorem plainL_all : ∀ (l : List DV), plainL l = true → ∀ r ∈ l, r.plain = true := fun l h r hr => (plainL_at l h r hr).1
theorem Res.plain {B : Nat → Prop} {S' : Nat → Nat → Prop} {r : DV} {v : Value} (hS : ∀ g o, ¬ B g → ¬ S' g o) (hp : r.plain = true) (h : Res B w S r v) : Res B w S' r v := by
  have other : r.isOwn = false → RdD w S r v → RdD w S' r v := fun ho hr => plain_any r v hp ho hr
  cases r with
  | sl k sz es =>
    cases k with
    | own el =>
      simp only [Res] at h ⊢
      obtain ⟨g, ho⟩ := h
      exact ⟨g, ho.plain (by simpa only [DV.plain] using hp) fun o => hS g o ho.choose_spec.2.2.base⟩
    | own2 el => simp [DV.plain] at hp
    | ro => simp [DV.plain] at hp
    | tight => simp [DV.plain] at hp
  | tuple rs =>
    simp only [Res] at h ⊢
    obtain ⟨vs, gs, rfl, hl⟩ := h
    exact ⟨vs, gs, rfl, ResL.plain hS rs vs gs (plainL_all rs (by simpa only [DV.plain] using hp)) hl⟩
  | agg rs =>
    simp only [Res] at h ⊢
    obtain ⟨vs, gs, rfl, hl⟩ := h
    exact ⟨vs, gs, rfl, ResL.plain hS rs vs gs (plainL_all rs (by simpa only [DV.plain] using hp)) hl⟩
  | _ => exact other rfl h

theorem mapO_snap {vs : List AV} {ds : List DV} {us : List Value} (h : mapO (snap st) vs = some ds) (hl : RdAL w S ρ vs us) {S' : Nat → Nat → Prop} (hs : ∀ v ∈ vs, ∀ x u, snap st v = some x → RdA w S ρ v u → RdD w S' x u) : RdL w S' ds us := by
  obtain ⟨h1, h2⟩ := mapO_at h
  refine RdL.mk _ _ (by rw [h1]; exact RdAL.length _ _ hl) fun i x u hx hu => ?_
  have hi : i < vs.length := by rw [← h1]; exact (List.getElem?_eq_some_iff.1 hx).1
  obtain ⟨y, hy, hf⟩ := h2 i _ (List.getElem?_eq_getElem hi)
  rw [hx] at hy
  simp only [Option.some.injEq] at hy
  subst hy
  obtain ⟨u', hu', hr⟩ := RdAL.at _ _ hl i _ (List.getElem?_eq_getElem hi)
  rw [hu] at hu'
  simp only [Option.some.injEq] at hu'
  subst hu'
  exact hs _ (List.getElem_mem hi) x u hf hr

/-- a call's contract, on what the call is handed -/
theorem call_sound (hI : Inv w0 S0 N ρ S st a w) (hcall : CallOk P call) {f : FuncId} {o : Oper} {t : Nat} (hdst : o.dst = some t) (ht : t < N) {avs : List AV} {vs : List Value} {ds : List DV} {r : DV}
    (hl : RdAL w S ρ avs vs) (hds : ∀ S', (∀ v ∈ avs, ∀ x u, snap st v = some x → RdA w S ρ v u → RdD w S' x u) → ∃ us : List Value, RdL w S' ds us ∧ (execOp a.eval o).run P w = (callFunc f us.toArray).run P w)
    (hr : call f ds = some r) (hst : st' = got t avs r st) (hK : ∀ a' w', InvE w0 S0 N st' a' w' → K a' w') : o.wp P a w K Q := by
  have hcon := hcall f ds r hr
  have finish : ∀ (us : List Value), (execOp a.eval o).run P w = (callFunc f us.toArray).run P w →
      (CallP P f us.toArray w fun v w' => InvE w0 S0 N st' (a.put (some t) v) w') → o.wp P a w K Q := by
    intro us hrun hc
    unfold Oper.wp
    rcases hc with ⟨⟨fn, hfn, hname, hbody⟩, hc⟩ | ⟨v, w', hrv, hi⟩
    · have henter : (callFunc f us.toArray).run P w = .ok (.enter f us.toArray) w := by
        simp only [callFunc, Sem.run_bind, run_program, Result.andThen_ok, hfn, hname, hbody, Bool.false_eq_true, if_false, Sem.run_pure]
      rw [hrun, henter]
      rw [Oper.upon_enter]
      refine hc.mono fun e w' he => ?_
      obtain ⟨v, rfl, hi⟩ := he
      refine hK _ _ ?_
      rw [hdst]
      exact hi
    · rw [hrun, hrv]
      refine hK _ _ ?_
      rw [hdst]
      exact hi
  subst hst
  unfold got at finish
  by_cases hany : anySiteL avs = true
  · obtain ⟨us, hus, hrun⟩ := hds (Sall st ρ S) fun v _ x u hx hv => snap_all hI hx hv
    refine finish us hrun ((hcon w us (Sall st ρ S) _ hus.args (Sall_lt hI)).mono fun v w' he => ?_)
    obtain ⟨S', hp⟩ := he
    by_cases hpl : r.plain = true
    · simp only [hany, hpl, Bool.not_true, Bool.and_false, Bool.false_eq_true, if_false]
      have hI' := hI.called hp.below (fun _ _ h => h) (fun _ _ h => .inl h) (fun b o h => Nat.lt_of_lt_of_le (hI.live b o h) hp.below.size)
      refine place_sound hI' (fun k hk => Nat.lt_of_lt_of_le (w0.lt k hk) hI.below.size) ht (hp.res.plain (fun g o hg h => ?_) hpl) fun s o hs => (hI.seg s o hs).lt.2.1
      exact hg (hI.live g o h)
    · simp only [hany, hpl, Bool.not_false, Bool.and_self, if_true]
      have hI' := hI.freeze.called hp.below hp.up hp.new hp.live
      exact place_sound hI' (fun k hk => Nat.lt_of_lt_of_le (w0.lt k hk) hI.below.size) ht hp.res fun s o hs => by simp [St.freeze] at hs
  · have hany' : anySiteL avs = false := by simpa using hany
    obtain ⟨us, hus, hrun⟩ := hds S fun v hv x u hx hr' => snap_none hI hx hr' (by
      have key : ∀ (l : List AV), anySiteL l = false → ∀ c ∈ l, c.anySite = false := by
        intro l
        induction l with
        | nil => simp
        | cons y l ih =>
          intro h c hc
          simp only [anySiteL, Bool.or_eq_false_iff] at h
          rcases List.mem_cons.1 hc with rfl | hc
          · exact h.1
          · exact ih h.2 c hc
      exact key avs hany' v hv)
    refine finish us hrun ((hcon w us S _ hus.args hI.live).mono fun v w' he => ?_)
    obtain ⟨S', hp⟩ := he
    simp only [hany', Bool.false_and, Bool.false_eq_true, if_false]
    have hI' := hI.called hp.below hp.up hp.new hp.live
    exact place_sound hI' (fun k hk => Nat.lt_of_lt_of_le (w0.lt k hk) hI.below.size) ht hp.res fun s o hs => (hI.seg s o hs).lt.2.1

/-- an object is handed over: what named it is forgotten -/
theorem Inv.lost (hI : Inv w0 S0 N ρ S st a w) {s : Nat} {ob : Ob} (hseg : st.seg s = some ob) {w' : World} {S' : Nat → Nat → Prop} (hb : BelowP (Base.but w (ρ s).1).old w w') (hup : ∀ b p, S b p → S' b p) (hnew : ∀ b p, S' b p → S b p ∨ ¬ (Base.but w (ρ s).1).old b)
    (hlive : ∀ b p, S' b p → b < w'.heap.size) : Inv w0 S0 N ρ S' (st.lose s) a w' := by
  have hs := (hI.seg s ob hseg).lt
  have hk : Kept w w' S S' := ⟨hup, fun b p hbp u hu => by
    rw [World.cell?] at hu ⊢
    rw [hb.block b ⟨hI.live b p hbp, fun e => hs.2.2 p (e ▸ hbp)⟩]; exact hu⟩
  have hkill : ∀ n o, (st.lose s).seg n = some o → n ≠ s ∧ st.seg n = some o := by
    intro n o hn
    simp only [St.lose] at hn
    split at hn
    · cases hn
    · rename_i hne
      simp only [Option.bind_eq_some_iff] at hn
      obtain ⟨o1, h1, h2⟩ := hn
      unfold Ob.kill at h2
      split at h2
      · cases h2
      · cases h2
        exact ⟨hne, h1⟩
  have hold : ∀ n o, (st.lose s).seg n = some o → (Base.but w (ρ s).1).old (ρ n).1 := fun n o hn => by
    obtain ⟨h1, h2⟩ := hkill n o hn
    exact ⟨(hI.seg n o h2).lt.2.1, fun e => h1 (hI.apart n s o ob h2 hseg e)⟩
  refine ⟨hI.size, hI.defers, fun n => ?_, fun n t' want v he h => ?_, fun n t' want v he h => ?_, fun n o hn => ?_, fun n m o o' hn hm he => ?_, hlive, fun b p h => hup b p (hI.up b p h), fun b p h => ?_, hI.below.trans (hb.mono fun k hk => ?_)⟩
  · simp only [St.lose, AV.kill]
    split
    · simp only [RdA]
    · exact RdA.kept hk _ _ (hI.env n)
  · simp only [St.lose, AV.kill] at he
    split at he
    · cases he
    · exact RdA.kept hk _ _ (hI.whens n t' want v he h)
  · simp only [St.lose, AV.kill] at he
    split at he
    · cases he
    · exact hI.nots n t' want v he h
  · obtain ⟨h1, h2⟩ := hkill n o hn
    have h3 := hold n o hn
    refine SegOk.kept hk (hI.seg n o h2) (hb.block _ h3) fun p hp => ?_
    rcases hnew _ _ hp with h | h
    · exact (hI.seg n o h2).lt.2.2 p h
    · exact h h3
  · exact hI.apart n m o o' (hkill n o hn).2 (hkill m o' hm).2 he
  · rcases hnew b p h with h | h
    · exact hI.new b p h
    · refine .inr fun ho => h ⟨Nat.lt_of_lt_of_le (w0.lt b ho) hI.below.size, fun e => hs.1 (e ▸ ho)⟩
  · exact ⟨Nat.lt_of_lt_of_le (w0.lt k hk) hI.below.size, fun e => hs.1 (e ▸ hk)⟩
theorem anySiteL_at : ∀ (l : List AV), anySiteL l = false → ∀ c ∈ l, c.anySite = false
  | [], _, c, hc => by cases hc
  | y :: l, h, c, hc => by
    simp only [anySiteL, Bool.or_eq_false_iff] at h
    rcases List.mem_cons.1 hc with rfl | hc
    · exact h.1
    · exact anySiteL_at l h.2 c hc
theorem mcall_sound (hI : Inv w0 S0 N ρ S st a w) (hcall : CallOk P call) {f : FuncId} {o : Oper} {t : Nat} (hdst : o.dst = some t) (ht : t < N) {s sz el : Nat} {es : List (List DV)} {vx : Value} {avs : List AV} {vs : List Value} {ds : List DV} {r : DV}
    (hx : RdA w S ρ (.aref s sz 0 es.length) vx) (hseg : st.seg s = some (.dat el sz es)) (hl : RdAL w S ρ avs vs) (hany : anySiteL avs = false) (hds : mapO (snap st) avs = some ds)
    (hrun : (execOp a.eval o).run P w = (callFunc f (vx :: vs).toArray).run P w)
    (hr : call f (.mv el sz es :: ds) = some r) (hst : st' = place t r (st.lose s)) (hK : ∀ a' w', InvE w0 S0 N st' a' w' → K a' w') : o.wp P a w K Q := by
  have hcon := hcall f _ r hr
  have hsg := hI.seg s _ hseg
  have hown : OwnAt (fun _ => False) w S el sz es vx (ρ s).1 := by
    obtain ⟨hrows, hro⟩ := hsg
    simp only [RdA] at hx
    obtain ⟨ad, cap, rfl, hb, hcap, _, _⟩ := hx
    have had := hb (.inr trivial)
    have hcp := hcap trivial
    subst had
    exact ⟨(ρ s).2, by simp [hcp], hrows, fun h => h, hro.here, hro.fits, hro.len, hro.apart⟩
  have hdl : RdL w S ds vs := mapO_snap hds hl fun v hv x u hx hr' => snap_none hI hx hr' (anySiteL_at avs hany v hv)
  have hc := hcon w (vx :: vs) S (Base.but w (ρ s).1) ⟨vx, vs, _, rfl, hown, hdl, rfl⟩ hI.live
  have fin : ∀ v w' S', Post (Base.but w (ρ s).1) S r v w' S' → InvE w0 S0 N st' (a.put (some t) v) w' := by
    intro v w' S' hp
    subst hst
    have hI' := hI.lost hseg hp.below hp.up hp.new hp.live
    refine place_sound hI' (fun k hk => ⟨Nat.lt_of_lt_of_le (w0.lt k hk) hI.below.size, fun e => hsg.lt.1 (e ▸ hk)⟩) ht hp.res fun n o' hn => ?_
    simp only [St.lose] at hn
    split at hn
    · cases hn
    · rename_i hne
      simp only [Option.bind_eq_some_iff] at hn
      obtain ⟨o1, h1, _⟩ := hn
      exact ⟨(hI.seg n o1 h1).lt.2.1, fun e => hne (hI.apart n s o1 _ h1 hseg e)⟩
  unfold Oper.wp
  rcases hc with ⟨⟨fn, hfn, hname, hbody⟩, hc⟩ | ⟨v, w', hrv, S', hp⟩
  · have henter : (callFunc f (vx :: vs).toArray).run P w = .ok (.enter f (vx :: vs).toArray) w := by
      simp only [callFunc, Sem.run_bind, run_program, Result.andThen_ok, hfn, hname, hbody, Bool.false_eq_true, if_false, Sem.run_pure]
    rw [hrun, henter]
    rw [Oper.upon_enter]
    refine hc.mono fun e w' he => ?_
    obtain ⟨v, rfl, S', hp⟩ := he
    refine hK _ _ ?_
    rw [hdst]
    exact fin v w' S' hp
  · rw [hrun, hrv]
    refine hK _ _ ?_
    rw [hdst]
    exact fin v w' S' hp

theorem call_val (hI : Inv w0 S0 N ρ S st a w) {dst : Option Tmp} {c : Call} {type : TypeId} {pos : String} {after : Array Edge} {guard : Option (Nat × Bool)} {op : AOp}
    (hc : cCall P c type = some op) :
    ∀ av, aVal st op = some av → ∃ u, (execOp a.eval ⟨dst, .call c, type, pos, after, guard⟩).run P w = .ok (.value u) w ∧ RdA w S ρ av u := by
  obtain ⟨callee, args, argTypes⟩ := c
  have hargs : ∀ l, args.toList = l → args.map a.eval = (l.map a.eval).toArray := by
    intro l hl
    rw [← hl, ← Array.toList_map, Array.toArray_toList]
  unfold cCall at hc
  dsimp only at hc
  split at hc
  · -- len
    split at hc
    · rename_i x T hx hT
      split at hc
      · rename_i e ax he hax
        cases hc
        exact fun av hav => by
          obtain ⟨u, h1, h2⟩ := len_sound (P := P) (ty := type) (elemT_under he) (ax_sound hI hax) (by simpa only [aVal] using hav)
          have hT' : argTypes = #[T] := by rw [← Array.toArray_toList (xs := argTypes), hT]
          refine ⟨u, ?_, h2⟩
          simp only [execOp, resolve, Sem.run_bind, Sem.run_pure, Result.andThen_ok, invoke, builtin, hargs _ hx, List.map_cons, List.map_nil, hT', h1]
      · cases hc
    · cases hc
  · -- max
    simp only [Option.map_eq_some_iff] at hc
    obtain ⟨axs, hm, rfl⟩ := hc
    exact fun av hav => by
      have hl := axs_sound hI hm
      simp only [aVal] at hav
      cases hax : axs.map (·.ev st) with
      | nil => simp [hax, intMax] at hav
      | cons v l =>
        rw [hax] at hav hl
        simp only [intMax] at hav
        simp only [RdAL] at hl
        obtain ⟨u, us, hus, hu, hl⟩ := hl
        obtain ⟨r, hr, hra⟩ := maxs_sound (P := P) l us v u av hl hu hav
        refine ⟨r, ?_, hra⟩
        simp only [execOp, resolve, Sem.run_bind, Sem.run_pure, Result.andThen_ok, invoke, builtin, Builtin.max_, hargs _ rfl, hus, hr]
  · -- min
    simp only [Option.map_eq_some_iff] at hc
    obtain ⟨axs, hm, rfl⟩ := hc
    exact fun av hav => by
      have hl := axs_sound hI hm
      simp only [aVal] at hav
      cases hax : axs.map (·.ev st) with
      | nil => simp [hax, intMin] at hav
      | cons v l =>
        rw [hax] at hav hl
        simp only [intMin] at hav
        simp only [RdAL] at hl
        obtain ⟨u, us, hus, hu, hl⟩ := hl
        obtain ⟨r, hr, hra⟩ := mins_sound (P := P) l us v u av hl hu hav
        refine ⟨r, ?_, hra⟩
        simp only [execOp, resolve, Sem.run_bind, Sem.run_pure, Result.andThen_ok, invoke, builtin, Builtin.min_, hargs _ rfl, hus, hr]
  · -- append
    split at hc
    · split at hc
      · split at hc
        · split at hc
          · split at hc
            · cases hc
              intro av hav
              simp [aVal] at hav
            · cases hc
          · cases hc
        · cases hc
      · cases hc
    · cases hc
  · split at hc
    · split at hc
      · cases hc
        intro av hav
        simp [aVal] at hav
      · cases hc
        intro av hav
        simp [aVal] at hav
    · cases hc
      intro av hav
      simp [aVal] at hav
    · cases hc
  · cases hc

theorem aval_sound (hI : Inv w0 S0 N ρ S st a w) {o : Oper} {op : AOp} (hc : cOp P o.type o.op = some op) :
    ∀ av, aVal st op = some av → ∃ u, (execOp a.eval o).run P w = .ok (.value u) w ∧ RdA w S ρ av u := by
  obtain ⟨dst, oop, type, pos, after, guard⟩ := o
  cases oop <;> simp only [cOp, reduceCtorEq] at hc
  case move x =>
    simp only [Option.map_eq_some_iff] at hc
    obtain ⟨ax, hx, rfl⟩ := hc
    exact fun av hav => by
      simp only [aVal, Option.some.injEq] at hav
      subst hav
      exact ⟨_, rfl, ax_sound hI hx⟩
  case assign x =>
    simp only [Option.map_eq_some_iff] at hc
    obtain ⟨ax, hx, rfl⟩ := hc
    exact fun av hav => by
      simp only [aVal, Option.some.injEq] at hav
      subst hav
      exact ⟨_, rfl, ax_sound hI hx⟩
  case pick c x y =>
    split at hc
    · rename_i c' x' y' h1 h2 h3
      simp only [Option.some.injEq] at hc
      subst hc
      intro av hav
      simp only [aVal] at hav
      split at hav
      · rename_i t
        split at hav
        · rename_i b hb
          have ht := guard_sound hI hb
          have hcv := bool_of (ax_sound hI h1) (b := b) (by simp only [AX.ev, hb, AV.strip])
          have hx : b = true → RdA w S ρ (x'.ev (st.under t true)) (a.eval x) := fun e => ax_sound (hI.under (by rw [ht, e])) h2
          have hy : b = false → RdA w S ρ (y'.ev (st.under t false)) (a.eval y) := fun e => ax_sound (hI.under (by rw [ht, e])) h3
          refine ⟨if b then a.eval x else a.eval y, ?_, ?_⟩
          · simp only [execOp, hcv, asBool, Sem.run_bind, Sem.run_pure, Result.andThen_ok]
          · split at hav
            · rename_i p q hp hq
              cases hav
              cases b
              · simpa only [hq, Bool.false_eq_true, if_false, cond_false] using hy rfl
              · simpa only [hp, if_true, cond_true] using hx rfl
            · rename_i k p k' q hp hq
              split at hav
              · rename_i hk
                subst hk
                cases hav
                cases b
                · simpa only [hq, Bool.false_eq_true, if_false, cond_false] using hy rfl
                · simpa only [hp, if_true, cond_true] using hx rfl
              · cases hav
            · cases hav
              cases b
              · simpa only [Bool.false_eq_true, if_false] using hy rfl
              · simpa only [if_true] using hx rfl
        · cases hav
      · cases hav
    · cases hc
  case alloc el =>
    split at hc
    · split at hc
      · cases hc
        intro av hav
        simp [aVal] at hav
      · cases hc
    · cases hc
  case box el x =>
    split at hc
    · cases hc
      intro av hav
      simp [aVal] at hav
    · cases hc
  case build T parts =>
    split at hc
    · rename_i fs z hu hz
      split at hc
      · rename_i hall
        simp only [Option.map_eq_some_iff] at hc
        obtain ⟨aps, hm, rfl⟩ := hc
        exact fun av hav => by
          simp only [aVal, Option.map_eq_some_iff] at hav
          obtain ⟨r, hr, rfl⟩ := hav
          obtain ⟨u, h1, h2⟩ := build_sound hI hu hz hall hm hr
          exact ⟨u, by simp only [execOp, Sem.run_bind, h1, Result.andThen_ok, Sem.run_pure], h2⟩
      · cases hc
    · cases hc
  case buildSlice T len parts =>
    split at hc
    · split at hc
      · split at hc
        · cases hc
          intro av hav
          simp [aVal] at hav
        · cases hc
      · cases hc
    · cases hc
  case load T x =>
    split at hc
    · rename_i g sz ax hg hs hx
      simp only [Option.some.injEq] at hc
      subst hc
      exact fun av hav => by
        simp only [aVal, Option.bind_eq_some_iff] at hav
        obtain ⟨av0, hav, hck⟩ := hav
        cases chk_eq hck
        obtain ⟨u, h1, h2⟩ := load_sound hI hg hs (ax_sound hI hx) hav
        exact ⟨u, by simp only [execOp, Sem.run_bind, h1, Result.andThen_ok, Sem.run_pure], h2⟩
    · cases hc
  case store T x y =>
    split at hc
    · cases hc
      intro av hav
      simp [aVal] at hav
    · cases hc
  case binOp bop T x y U =>
    split at hc
    · rename_i ax ay hx hy
      have hxs := ax_sound hI hx
      have hys := ax_sound hI hy
      have hexec : ∀ u w1, (do eqGuard bop T x y (a.eval x) (a.eval y); binOp bop T (a.eval x) (a.eval y) : Sem Value).run P w = .ok u w1 →
          (execOp a.eval ⟨dst, .binOp bop T x y U, type, pos, after, guard⟩).run P w = .ok (.value u) w1 := by
        intro u w1 hr
        simp only [execOp]
        rw [Sem.run_bind, hr]
        rfl
      let VS := fun op => ∀ av, aVal st op = some av → ∃ u, (execOp a.eval ⟨dst, .binOp bop T x y U, type, pos, after, guard⟩).run P w = .ok (.value u) w ∧ RdA w S ρ av u
      have hbin : VS (.bin bop ax ay) := fun av hav => by
          obtain ⟨u, h1, h2⟩ := bin_sound (P := P) (t := T) (ox := x) (oy := y) hxs hys (by simpa only [aVal] using hav)
          exact ⟨u, hexec u w h1, h2⟩
      have heqs : ∀ neg n, bop = (if neg then .neq else .eql) → flatT P T = some n → VS (.eqs neg n ax ay) := fun neg n hop hf av hav => by
          simp only [aVal] at hav
          obtain ⟨u, h1, h2⟩ := eqs_sound (P := P) (t := T) (ox := x) (oy := y) hop hf hxs hys hav
          exact ⟨u, hexec u w h1, h2⟩
      have heqb : ∀ neg, bop = (if neg then .neq else .eql) → P.underlying T = some .bool → VS (.eqb neg ax ay) := fun neg hop hf av hav => by
          simp only [aVal] at hav
          obtain ⟨u, h1, h2⟩ := eqb_sound (P := P) (t := T) (ox := x) (oy := y) hop hf hxs hys hav
          exact ⟨u, hexec u w h1, h2⟩
      have hnil : ∀ neg e, bop = (if neg then .neq else .eql) → P.underlying T = some (.slice e) → ay = .k .nilsl → VS (.eqnil neg ax) := fun neg e hop hu hay av hav => by
          simp only [aVal] at hav
          subst hay
          have hyv : a.eval y = .slice none 0 0 := by simpa only [AX.ev, RdA, RdD] using hys
          obtain ⟨u, h1, h2⟩ := nil_sound (P := P) (t := T) (ox := x) (oy := y) hop hu hxs hav
          rw [← hyv] at h1
          exact ⟨u, hexec u w h1, h2⟩
      have hshf : (bop = .shl ∨ bop = .shr) → VS (.shf bop ax ay) := fun hop av hav => by
          simp only [aVal] at hav
          obtain ⟨u, h1, h2⟩ := shf_sound (P := P) (t := T) (ox := x) (oy := y) hop hxs hys hav
          exact ⟨u, hexec u w h1, h2⟩
      cases bop <;> simp only at hc
      case shl => cases hc; exact hshf (.inl rfl)
      case shr => cases hc; exact hshf (.inr rfl)
      case eql =>
        split at hc
        · rename_i n hf
          cases hc
          exact heqs false n rfl hf
        · split at hc
          · rename_i hu
            cases hc
            exact heqb false rfl hu
          · cases hc
            exact hbin
          · rename_i e hu
            split at hc
            · cases hc
              exact hnil false e rfl hu rfl
            · cases hc
          · cases hc
      case neq =>
        split at hc
        · rename_i n hf
          cases hc
          exact heqs true n rfl hf
        · split at hc
          · rename_i hu
            cases hc
            exact heqb true rfl hu
          · cases hc
            exact hbin
          · rename_i e hu
            split at hc
            · cases hc
              exact hnil true e rfl hu rfl
            · cases hc
          · cases hc
      all_goals (cases hc; exact hbin)
    · cases hc
  case unOp uop T x =>
    simp only [Option.map_eq_some_iff] at hc
    obtain ⟨ax, hx, rfl⟩ := hc
    exact fun av hav => by
      obtain ⟨u, h1, h2⟩ := un_sound (P := P) (ax_sound hI hx) (by simpa only [aVal] using hav)
      exact ⟨u, by simp only [execOp, Sem.run_bind, h1, Result.andThen_ok, Sem.run_pure], h2⟩
  case convert src dst' x =>
    split at hc
    · rename_i d k ax h1 h2 hx
      cases hc
      exact fun av hav => by
        obtain ⟨u, g1, g2⟩ := conv_sound (P := P) h1 h2 (ax_sound hI hx) (by simpa only [aVal] using hav)
        exact ⟨u, by simp only [execOp, Sem.run_bind, g1, Result.andThen_ok, Sem.run_pure], g2⟩
    · cases hc
  case fieldAddr s x f =>
    split at hc
    · rename_i fs ax hu hx
      split at hc
      · rename_i fd hf
        split at hc
        · rename_i n hn
          split at hc
          · cases hc
          · rename_i h0
            cases hc
            exact fun av hav => by
              obtain ⟨u, g1, g2⟩ := faddr_sound (P := P) hu hf hn h0 (ax_sound hI hx) (by simpa only [aVal] using hav)
              exact ⟨u, by simp only [execOp, Sem.run_bind, g1, Result.andThen_ok, Sem.run_pure], g2⟩
        · cases hc
      · cases hc
    · cases hc
  case indexAddr T x i =>
    split at hc
    · rename_i e ax ai he hx hi
      split at hc
      · rename_i sz hs
        split at hc
        · cases hc
          exact fun av hav => by
            simp only [aVal, Option.bind_eq_some_iff] at hav
            obtain ⟨av0, hav, hck⟩ := hav
            cases chkR_eq hck
            obtain ⟨u, g1, g2⟩ := iaddr_sound (P := P) (elemT_under he) hs (ax_sound hI hx) (ax_sound hI hi) hav
            exact ⟨u, by simp only [execOp, Sem.run_bind, g1, Result.andThen_ok, Sem.run_pure], g2⟩
        · cases hc
      · cases hc
    · cases hc
  case slice T x lo hi mx =>
    split at hc
    · rename_i e ax alo ahi amx he hx h1 h2 h3
      split at hc
      · rename_i sz hs
        split at hc
        · cases hc
          exact fun av hav => by
            obtain ⟨u, g1, g2⟩ := slice_sound (P := P) (ox := x) hI (elemT_under he) hs (ax_sound hI hx) h1 h2 h3 (by simpa only [aVal] using hav)
            exact ⟨u, by simp only [execOp, Sem.run_bind, g1, Result.andThen_ok, Sem.run_pure], g2⟩
        · cases hc
      · cases hc
    · cases hc
  case extract x i =>
    simp only [Option.map_eq_some_iff] at hc
    obtain ⟨ax, hx, rfl⟩ := hc
    exact fun av hav => by
      obtain ⟨u, h1, h2⟩ := ext_sound (P := P) (ax_sound hI hx) (by simpa only [aVal] using hav)
      exact ⟨u, by simp only [execOp, Sem.run_bind, h1, Result.andThen_ok, Sem.run_pure], h2⟩
  case makeFunc fn first caps =>
    cases fn <;> simp only [reduceCtorEq] at hc
    rename_i f
    split at hc
    · rename_i hfirst
      simp only [Option.map_eq_some_iff] at hc
      obtain ⟨acs, hm, rfl⟩ := hc
      exact fun av hav => by
        simp only [aVal, Option.some.injEq] at hav
        subst hav
        obtain ⟨u, h1, h2⟩ := mkfn_sound (P := P) hI (f := f) hm
        have hf0 : first = #[] := by simpa using hfirst
        subst hf0
        exact ⟨u, by simp only [execOp, List.map_toArray, List.map_nil, Sem.run_bind, h1, Result.andThen_ok, Sem.run_pure], h2⟩
    · cases hc
  case makeSlice T l c =>
    split at hc
    · split at hc
      · split at hc
        · cases hc
          intro av hav
          simp [aVal] at hav
        · cases hc
      · cases hc
    · cases hc
  case call c => exact call_val hI hc

theorem call_op (hI : Inv w0 S0 N ρ S st a w) (hcall : CallOk P call) {dst : Option Tmp} {c : Call} {type : TypeId} {pos : String} {after : Array Edge} {guard : Option (Nat × Bool)} {op : AOp}
    (hc : cCall P c type = some op) (hd : ∀ d, dst = some d → d < N) (h : opStep call dst op st = some st') (hK : ∀ a' w', InvE w0 S0 N st' a' w' → K a' w') :
    Oper.wp P ⟨dst, .call c, type, pos, after, guard⟩ a w K Q := by
  obtain ⟨callee, args, argTypes⟩ := c
  have hargs : ∀ l, args.toList = l → args.map a.eval = (l.map a.eval).toArray := by
    intro l hl
    rw [← hl, ← Array.toList_map, Array.toArray_toList]
  have hc0 := hc
  unfold cCall at hc
  dsimp only at hc
  split at hc
  · -- len
    split at hc
    · rename_i x T hx hT
      split at hc
      · rename_i e ax he hax
        cases hc
        exact val_op hI hd h hK (fun _ => rfl) rfl (call_val hI hc0)
      · cases hc
    · cases hc
  · -- max
    simp only [Option.map_eq_some_iff] at hc
    obtain ⟨axs, hm, rfl⟩ := hc
    exact val_op hI hd h hK (fun _ => rfl) rfl (call_val hI hc0)
  · -- min
    simp only [Option.map_eq_some_iff] at hc
    obtain ⟨axs, hm, rfl⟩ := hc
    exact val_op hI hd h hK (fun _ => rfl) rfl (call_val hI hc0)
  · -- append
    split at hc
    · rename_i x y T U hxy hTU
      split at hc
      · rename_i heq
        subst heq
        split at hc
        · rename_i e ax ay he hx hy
          split at hc
          · rename_i sz bytes z hs hb hz
            split at hc
            · rename_i hcond
              cases hc
              cases dst with
              | none => simp [opStep, aVal] at h
              | some t =>
                simp only [opStep] at h
                obtain ⟨u, w1, hr, hi⟩ := append_sound (ty := type) hI (hd t rfl) (elemT_under he) hs hb hcond.1 hz hcond.2 (ax_sound hI hx) (ax_sound hI hy) h
                have hT' : argTypes = #[T, T] := by rw [← Array.toArray_toList (xs := argTypes), hTU]
                exact new_op rfl hK ⟨u, w1, by simp only [execOp, resolve, Sem.run_bind, Sem.run_pure, Result.andThen_ok, invoke, builtin, hargs _ hxy, List.map_cons, List.map_nil, hT', hr], hi⟩
            · cases hc
          · cases hc
        · cases hc
      · cases hc
    · cases hc
  · -- a function
    rename_i f
    split at hc
    · rename_i g fx axs hfx hm
      split at hc
      · rename_i ax axs hmv
        cases hc
        cases dst with
        | none => simp [opStep, aVal] at h
        | some t =>
          simp only [opStep] at h
          split at h
          · rename_i s sz off len hxe
            split at h
            · rename_i el sz' es hseg
              split at h
              · rename_i hcc
                obtain ⟨rfl, rfl, rfl, hany⟩ := hcc
                split at h
                · rename_i ds hds
                  simp only [Option.map_eq_some_iff] at h
                  obtain ⟨r, hr, hst⟩ := h
                  have hl := axs_sound hI hm
                  simp only [List.map_cons, RdAL] at hl
                  obtain ⟨u, us, hus, hu, hul⟩ := hl
                  rw [hxe] at hu
                  refine mcall_sound hI hcall rfl (hd t rfl) hu hseg hul hany hds ?_ hr hst.symm hK
                  simp only [execOp, resolve, Act.eval, Deferred.ofValue, Sem.run_bind, Sem.run_pure, Result.andThen_ok, invoke, Array.empty_append, Array.append_empty]
                  rw [← hus, ← Array.toList_map, Array.toArray_toList]
                · cases h
              · cases h
            · cases h
          · rename_i y hxe
            split at h
            · rename_i ds hds
              simp only [Option.bind_eq_some_iff] at h
              obtain ⟨r, hr, h⟩ := h
              split at h
              · cases h
              rename_i hcond
              have hmap : List.map (fun x => x.ev st) (ax :: axs) = .d y :: axs.map (·.ev st) := by rw [List.map_cons, hxe]
              rw [← hmap] at hds
              have hst : got t (List.map (fun x => x.ev st) (ax :: axs)) r st = st' := by
                have hc' : (anySiteL (List.map (fun x => x.ev st) (ax :: axs)) && !r.plain) = false := by
                  rw [hmap]
                  simpa [anySiteL, AV.anySite] using hcond
                simp only [got, hc', Bool.false_eq_true, if_false]
                exact Option.some.inj h
              have hl := axs_sound hI hm
              refine call_sound hI hcall rfl (hd t rfl) hl (fun S' hs => ?_) hr hst.symm hK
              refine ⟨args.toList.map a.eval, mapO_snap hds hl hs, ?_⟩
              simp only [execOp, resolve, Act.eval, Deferred.ofValue, Sem.run_bind, Sem.run_pure, Result.andThen_ok, invoke, Array.empty_append, Array.append_empty]
              rw [← Array.toList_map, Array.toArray_toList]
            · cases h
          · cases h
      cases hc
      cases dst with
      | none => simp [opStep, aVal] at h
      | some t =>
        simp only [opStep] at h
        split at h
        · rename_i ds hds
          simp only [Option.bind_eq_some_iff, gotO] at h
          obtain ⟨r, hr, h⟩ := h
          split at h
          · cases h
          have hst := Option.some.inj h
          have hl := axs_sound hI hm
          refine call_sound hI hcall rfl (hd t rfl) hl (fun S' hs => ?_) hr hst.symm hK
          refine ⟨args.toList.map a.eval, mapO_snap hds hl hs, ?_⟩
          simp only [execOp, resolve, Act.eval, Deferred.ofValue, Sem.run_bind, Sem.run_pure, Result.andThen_ok, invoke, Array.empty_append, Array.append_empty]
          rw [← Array.toList_map, Array.toArray_toList]
        · cases h
    · rename_i fo fA _ _ fx axs hneg hm hfx
      cases hc
      cases dst with
      | none => simp [opStep, aVal] at h
      | some t =>
        simp only [opStep] at h
        split at h
        · rename_i g caps ds hg hds
          simp only [Option.bind_eq_some_iff, gotO] at h
          obtain ⟨r, hr, h⟩ := h
          split at h
          · cases h
          have hst := Option.some.inj h
          have hl := axs_sound hI hm
          have hfs := ax_sound hI hfx
          refine call_sound hI hcall rfl (hd t rfl) (vs := a.eval fo :: args.toList.map a.eval) (avs := fx.ev st :: axs.map (·.ev st)) (by simp only [RdAL]; exact ⟨_, _, rfl, hfs, hl⟩) (fun S' hs => ?_) hr hst.symm hK
          have hfv := hs (fx.ev st) (by simp) _ _ hg hfs
          simp only [RdD] at hfv
          obtain ⟨us, hfe, hul⟩ := hfv
          refine ⟨args.toList.map a.eval ++ us, ?_, ?_⟩
          · have h1 := mapO_snap hds hl (S' := S') fun v hv => hs v (by simp [hv])
            exact RdL_append _ _ _ _ h1 hul
          · simp only [execOp, resolve, hfe, Deferred.ofValue, Sem.run_bind, Sem.run_pure, Result.andThen_ok, invoke, Array.empty_append]
            rw [← Array.toList_map, ← List.append_toArray, Array.toArray_toList]
        · cases h
    · cases hc
  · cases hc
where
  RdL_append {w : World} {S : Nat → Nat → Prop} : ∀ (l m : List DV) (us vs : List Value), RdL w S l us → RdL w S m vs → RdL w S (l ++ m) (us ++ vs)
    | [], m, us, vs, h1, h2 => by simp only [RdL] at h1; subst h1; simpa using h2
    | x :: l, m, us, vs, h1, h2 => by
      simp only [RdL] at h1
      obtain ⟨u, us', rfl, h3, h4⟩ := h1
      simp only [List.cons_append, RdL]
      exact ⟨u, us' ++ vs, rfl, h3, RdL_append l m us' vs h4 h2⟩


theorem op_sound (hI : Inv w0 S0 N ρ S st a w) (hcall : CallOk P call) {o : Oper} {op : AOp} (hc : cOp P o.type o.op = some op) (hd : ∀ d, o.dst = some d → d < N) (h : opStep call o.dst op st = some st')
    (hK : ∀ a' w', InvE w0 S0 N st' a' w' → K a' w') : o.wp P a w K Q := by
  have hval := fun h1 h2 => val_op (K := K) (Q := Q) hI hd h hK h1 h2 (aval_sound (P := P) hI hc)
  obtain ⟨dst, oop, type, pos, after, guard⟩ := o
  cases oop <;> simp only [cOp, reduceCtorEq] at hc
  case move x =>
    simp only [Option.map_eq_some_iff] at hc
    obtain ⟨ax, hx, rfl⟩ := hc
    exact hval (fun _ => rfl) rfl
  case assign x =>
    simp only [Option.map_eq_some_iff] at hc
    obtain ⟨ax, hx, rfl⟩ := hc
    exact hval (fun _ => rfl) rfl
  case pick c x y =>
    split at hc
    · cases hc
      exact hval (fun _ => rfl) rfl
    · cases hc
  case alloc el =>
    split at hc
    · rename_i z sz hz hs
      split at hc
      · rename_i hzl
        simp only [Option.some.injEq] at hc
        subst hc
        cases dst with
        | none => simp [opStep] at h
        | some t =>
          simp only [opStep] at h
          split at h
          · rename_i hcond
            simp only [Option.some.injEq] at h
            subst h
            obtain ⟨u, w1, hr, hi⟩ := alloc_sound hI (hd t rfl) hz hcond.1 hcond.2
            exact new_op rfl hK ⟨u, w1, by simp only [execOp, Sem.run_bind, hr, Result.andThen_ok, Sem.run_pure], hi⟩
          · cases h
      · cases hc
    · cases hc
  case box el x =>
    split at hc
    · rename_i ax sz hx hs
      simp only [Option.some.injEq] at hc
      subst hc
      cases dst with
      | none => simp [opStep] at h
      | some t =>
        simp only [opStep] at h
        split at h
        · rename_i hcond
          simp only [Option.some.injEq] at h
          subst h
          obtain ⟨u, w1, hr, hi⟩ := box_sound (P := P) hI (el := el) (hd t rfl) (ax_sound hI hx) hcond.1 hcond.2.1 hcond.2.2
          exact new_op rfl hK ⟨.pointer (some u), w1, by simp only [execOp, Instr.box, Sem.run_bind, hr, Result.andThen_ok, Sem.run_pure], hi⟩
        · cases h
    · cases hc
  case build T parts =>
    split at hc
    · rename_i fs z hu hz
      split at hc
      · rename_i hall
        simp only [Option.map_eq_some_iff] at hc
        obtain ⟨aps, hm, rfl⟩ := hc
        exact hval (fun _ => rfl) rfl
      · cases hc
    · cases hc
  case buildSlice T len parts =>
    split at hc
    · rename_i e he
      split at hc
      · rename_i sz z ps hs hz hm
        split at hc
        · rename_i hcond
          simp only [Option.some.injEq] at hc
          subst hc
          cases dst with
          | none => simp [opStep] at h
          | some t =>
            simp only [opStep] at h
            split at h
            · rename_i hz2
              split at h
              · rename_i rows hrows
                split at h
                · cases h
                · rename_i hno
                  simp only [Option.some.injEq] at h
                  subst h
                  obtain ⟨u, w1, hr, hi⟩ := bslice_sound hI (hd t rfl) (elemT_under he) hs hcond.1 hz hz2.1 hz2.2 hcond.2.2 hm hrows (by simpa using hno)
                  exact new_op rfl hK ⟨u, w1, by simp only [execOp, Sem.run_bind, hr, Result.andThen_ok, Sem.run_pure], hi⟩
              · cases h
            · cases h
        · cases hc
      · cases hc
    · cases hc
  case load T x =>
    split at hc
    · rename_i g sz ax hg hs hx
      simp only [Option.some.injEq] at hc
      subst hc
      exact hval (fun _ => rfl) rfl
    · cases hc
  case store T x y =>
    split at hc
    · rename_i sz ax ay hs hx hy
      simp only [Option.some.injEq] at hc
      subst hc
      cases dst with
      | some t => simp [opStep, aVal] at h
      | none =>
        simp only [opStep] at h
        obtain ⟨w1, hr, hi⟩ := store_sound hI hs (ax_sound hI hx) (ax_sound hI hy) h
        exact wp_skip' (by simp only [execOp, Sem.run_bind, hr, Result.andThen_ok, Sem.run_pure]) (hK _ _ hi)
    · cases hc
  case binOp bop T x y U =>
    split at hc
    · cases bop <;> simp only at hc
      case eql =>
        split at hc
        · cases hc
          exact hval (fun _ => rfl) rfl
        · split at hc
          · cases hc
            exact hval (fun _ => rfl) rfl
          · cases hc
            exact hval (fun _ => rfl) rfl
          · split at hc
            · cases hc
              exact hval (fun _ => rfl) rfl
            · cases hc
          · cases hc
      case neq =>
        split at hc
        · cases hc
          exact hval (fun _ => rfl) rfl
        · split at hc
          · cases hc
            exact hval (fun _ => rfl) rfl
          · cases hc
            exact hval (fun _ => rfl) rfl
          · split at hc
            · cases hc
              exact hval (fun _ => rfl) rfl
            · cases hc
          · cases hc
      all_goals (cases hc; exact hval (fun _ => rfl) rfl)
    · cases hc
  case unOp uop T x =>
    simp only [Option.map_eq_some_iff] at hc
    obtain ⟨ax, hx, rfl⟩ := hc
    exact hval (fun _ => rfl) rfl
  case convert src dst' x =>
    split at hc
    · rename_i d k ax h1 h2 hx
      cases hc
      exact hval (fun _ => rfl) rfl
    · cases hc
  case fieldAddr s x f =>
    split at hc
    · rename_i fs ax hu hx
      split at hc
      · rename_i fd hf
        split at hc
        · rename_i n hn
          split at hc
          · cases hc
          · rename_i h0
            cases hc
            exact hval (fun _ => rfl) rfl
        · cases hc
      · cases hc
    · cases hc
  case indexAddr T x i =>
    split at hc
    · rename_i e ax ai he hx hi
      split at hc
      · rename_i sz hs
        split at hc
        · cases hc
          exact hval (fun _ => rfl) rfl
        · cases hc
      · cases hc
    · cases hc
  case slice T x lo hi mx =>
    split at hc
    · rename_i e ax alo ahi amx he hx h1 h2 h3
      split at hc
      · rename_i sz hs
        split at hc
        · cases hc
          exact hval (fun _ => rfl) rfl
        · cases hc
      · cases hc
    · cases hc
  case extract x i =>
    simp only [Option.map_eq_some_iff] at hc
    obtain ⟨ax, hx, rfl⟩ := hc
    exact hval (fun _ => rfl) rfl
  case makeFunc fn first caps =>
    cases fn <;> simp only [reduceCtorEq] at hc
    rename_i f
    split at hc
    · rename_i hfirst
      simp only [Option.map_eq_some_iff] at hc
      obtain ⟨acs, hm, rfl⟩ := hc
      exact hval (fun _ => rfl) rfl
    · cases hc
  case makeSlice T l c =>
    split at hc
    · rename_i e al ac he hl hcap
      split at hc
      · rename_i sz bytes z hs hb hz
        split at hc
        · rename_i hcond
          cases hc
          cases dst with
          | none => simp [opStep] at h
          | some t =>
            simp only [opStep] at h
            split at h
            · rename_i kl m kc n hm hn
              split at h
              · rename_i hcc
                obtain ⟨rfl, c0, c1, c2, c3, c4⟩ := hcc
                cases h
                have e1 := int_of (ax_sound hI hl) hm
                have e2 := int_of (ax_sound hI hcap) hn
                obtain ⟨u, w1, hr, hi⟩ := mkslice_sound hI (hd t rfl) (elemT_under he) hs hb hcond.1 hz c3 c4 (kl := kl) (kc := kc) c0 c1 c2
                exact new_op rfl hK ⟨u, w1, by simp only [execOp, e1, e2, Sem.run_bind, hr, Result.andThen_ok, Sem.run_pure], hi⟩
              · cases h
            · cases h
        · cases hc
      · cases hc
    · cases hc
  case call c => exact call_op hI hcall hc hd h hK
end
end Go.Proofs.Ytjejjokdbbedlaa.Vm
