/- What an operation is worth that changes no object: its value, and what it makes never written again. No condition. -/
import Derived.Test.YtjejjokdbbedlaaVmK
namespace Go.Proofs.Ytjejjokdbbedlaa.Vm
open Go Go.RowKit
set_option linter.unusedVariables false
set_option linter.unusedSimpArgs false
set_option linter.unusedSectionVars false
section
variable {P : Program} {w0 : Base} {S0 : Nat → Nat → Prop} {N : Nat} {ρ : Nat → Nat × Nat} {S : Nat → Nat → Prop} {st st' : St} {a : Act} {w : World} {call : FuncId → List DV → Option DV}
  {K : Act → World → Prop} {Q : Exit → Act → World → Prop}

theorem ro1_sound {x : DV} {v : Value} (h : RdD w S x v) : RdD w S (ro1 x) v := by
  cases x with
  | sl k sz es =>
    cases k with
    | own el =>
      simp only [ro1, RdD] at h ⊢
      obtain ⟨a, b, o, cap, h1, h0, h2, _, h4⟩ := h
      exact ⟨a, b, o, cap, h1, h0, h2, (fun h => by cases h), h4⟩
    | own2 el =>
      simp only [ro1, RdD, List.length_map] at h ⊢
      obtain ⟨a, b, o, cap, h1, h0, h2, _, h4⟩ := h
      refine ⟨a, b, o, cap, h1, h0, h2, (fun h => by cases h), RdE.mk _ _ _ _ fun i e he => ?_⟩
      obtain ⟨e0, he0, rfl⟩ := Option.map_eq_some_iff.1 (by rw [List.getElem?_map] at he; exact he)
      obtain ⟨g1, g2⟩ := RdE.at _ _ _ _ h4 i e0 he0
      refine ⟨by rw [List.length_map]; exact g1, RdC.mk _ _ _ fun j c hc => ?_⟩
      obtain ⟨c0, hc0, rfl⟩ := Option.map_eq_some_iff.1 (by rw [List.getElem?_map] at hc; exact hc)
      obtain ⟨k1, u, k2, k3⟩ := RdC.at _ _ _ g2 j c0 hc0
      exact ⟨k1, u, k2, cellS_sound k3⟩
    | _ => exact h
  | _ => exact h
theorem ro1L_sound : ∀ (l : List DV) (us : List Value), RdL w S l us → RdL w S (l.map ro1) us
  | [], us, h => by simpa only [RdL, List.map_nil] using h
  | x :: l, us, h => by
    simp only [RdL] at h
    obtain ⟨u, us', rfl, h1, h2⟩ := h
    simp only [List.map_cons, RdL]
    exact ⟨u, us', rfl, ro1_sound h1, ro1L_sound l us' h2⟩
theorem roTop_sound {x : DV} {v : Value} (h : RdD w S x v) : RdD w S (roTop x) v := by
  cases x with
  | tuple vs =>
    simp only [roTop, RdD] at h ⊢
    obtain ⟨us, rfl, hl⟩ := h
    exact ⟨us, rfl, ro1L_sound vs us hl⟩
  | agg vs =>
    simp only [roTop, RdD] at h ⊢
    obtain ⟨us, rfl, hl⟩ := h
    exact ⟨us, rfl, ro1L_sound vs us hl⟩
  | _ => exact ro1_sound h

/-- what a call owns that nobody writes again -/
theorem OwnAt.read {B : Nat → Prop} {S' : Nat → Nat → Prop} {el sz g : Nat} {es : List (List DV)} {v : Value} (h : OwnAt B w S el sz es v g) (hS : ∀ b o, S b o → S' b o) (hg : ∀ o, S' g o) : RdD w S' (.sl .ro sz es) v := by
  obtain ⟨cap, rfl, hrows, hro⟩ := h
  obtain ⟨cur, hcur, _, hcell⟩ := hro.here
  simp only [RdD]
  refine ⟨_, g, 0, cap, rfl, fun _ => rfl, hro.fits, (fun h => by cases h), RdE.mk _ _ _ _ fun i e he => ?_⟩
  have hel := (hrows e (List.mem_of_getElem? he)).1
  refine ⟨hel, RdC.mk _ _ _ fun j c hc => ⟨hg _, ?_⟩⟩
  obtain ⟨u, hu, hr⟩ := hcell i j (List.getElem?_eq_some_iff.1 he).1 (by rw [← hel]; exact (List.getElem?_eq_some_iff.1 hc).1)
  exact ⟨u, by rw [Nat.zero_add, cell_of_row w _ _ cur el (0, 0) hcur]; exact hu, RdD.kept ⟨hS, fun _ _ _ _ h => h⟩ c u (hr e c he hc)⟩
theorem RdD.own {S' : Nat → Nat → Prop} {k : SK} {sz el : Nat} {es : List (List DV)} {v : Value} (h : RdD w S' (.sl .ro sz es) v) : RdD w S' (.sl (.own el) sz es) v := by
  simp only [RdD] at h ⊢
  obtain ⟨a, b, o, cap, h1, h0, h2, _, h4⟩ := h
  exact ⟨a, b, o, cap, h1, h0, h2, (fun h => by cases h), h4⟩
theorem ResI.read {B : Nat → Prop} {S' : Nat → Nat → Prop} (hS : ∀ b o, S b o → S' b o) (hB : ∀ b o, ¬ B b → b < w.heap.size → S' b o) : ∀ (rs : List DV) (vs : List Value) (gs : List Nat), ResI B w S rs vs gs → RdL w S' rs vs
  | [], vs, gs, h => by simp only [ResI] at h; simpa only [RdL] using h.1
  | r :: rs, vs, gs, h => by
    by_cases hown : ∃ el sz es, r = .sl (.own el) sz es
    · obtain ⟨el, sz, es, rfl⟩ := hown
      simp only [ResI] at h
      obtain ⟨v, vs', g, gs', rfl, rfl, ho, _, hrest⟩ := h
      simp only [RdL]
      exact ⟨v, vs', rfl, RdD.own (k := .ro) (ho.read hS fun o => hB _ _ ho.choose_spec.2.2.base ho.choose_spec.2.2.lt), ResI.read hS hB rs vs' gs' hrest⟩
    · have hres : ∃ v vs', vs = v :: vs' ∧ RdD w S r v ∧ ResI B w S rs vs' gs := by
        cases r <;> try (simpa only [ResI] using h)
        rename_i k sz es
        cases k <;> first | (simpa only [ResI] using h) | exact absurd ⟨_, _, _, rfl⟩ hown
      obtain ⟨v, vs', rfl, h1, h2⟩ := hres
      simp only [RdL]
      exact ⟨v, vs', rfl, RdD.kept ⟨hS, fun _ _ _ _ h => h⟩ r v h1, ResI.read hS hB rs vs' gs h2⟩
theorem ResR.at_ {B : Nat → Prop} : ∀ (es : List (List DV)) (uss : List (List Value)) (hs : List Nat), ResR B w S es uss hs → uss.length = es.length ∧ ∀ (i : Nat) (e : List DV) (us : List Value), es[i]? = some e → uss[i]? = some us → ∃ gs, ResI B w S e us gs
  | [], uss, hs, h => by
    simp only [ResR] at h
    exact ⟨by rw [h.1]; rfl, fun i e us he => by simp at he⟩
  | x :: es, uss, hs, h => by
    simp only [ResR] at h
    obtain ⟨us, uss', h1, h2, rfl, _, hx, hes, _⟩ := h
    obtain ⟨k1, k2⟩ := ResR.at_ es uss' h2 hes
    refine ⟨by simp only [List.length_cons, k1], fun i e us2 he hu => ?_⟩
    cases i with
    | zero =>
      cases he
      cases hu
      exact ⟨_, hx⟩
    | succ i => exact k2 i e us2 he hu
/-- what a call owns, cells and all, that nobody writes again -/
theorem OwnDeep.read {B : Nat → Prop} {S' : Nat → Nat → Prop} (hS : ∀ b o, S b o → S' b o) (hB : ∀ b o, ¬ B b → b < w.heap.size → S' b o) {el sz g : Nat} {es : List (List DV)} {v : Value} {hs : List Nat} (h : OwnDeep B w S el sz es v g hs) : RdD w S' (.sl (.own2 el) sz es) v := by
  obtain ⟨cap, uss, rfl, hrows, hro, hR, _⟩ := h
  obtain ⟨r1, r2⟩ := ResR.at_ _ _ _ hR
  have hlt := hro.lt
  obtain ⟨cur, hcur, _, hcell⟩ := hro.here
  simp only [RdD]
  refine ⟨_, g, 0, cap, rfl, fun _ => rfl, hro.fits, (fun h => by cases h), RdE.mk _ _ _ _ fun i e he => ?_⟩
  have hel := (hrows e (List.mem_of_getElem? he)).1
  have hi := (List.getElem?_eq_some_iff.1 he).1
  refine ⟨hel, RdC.mk _ _ _ fun j c hc => ⟨hB _ _ hro.base hlt, ?_⟩⟩
  obtain ⟨u, hu, hr⟩ := hcell i j hi (by rw [← hel]; exact (List.getElem?_eq_some_iff.1 hc).1)
  have hiu : i < uss.length := by rw [r1]; exact hi
  obtain ⟨gs, hI⟩ := r2 i e uss[i] he (List.getElem?_eq_getElem hiu)
  obtain ⟨u', hu', hr'⟩ := RdL.at _ _ (ResI.read hS hB _ _ _ hI) j c hc
  have := hr _ u' (List.getElem?_eq_getElem hiu) hu'
  subst this
  exact ⟨u', by rw [Nat.zero_add, cell_of_row w _ _ cur el (0, 0) hcur]; exact hu, hr'⟩
theorem ResL.read {B : Nat → Prop} {S' : Nat → Nat → Prop} (hS : ∀ b o, S b o → S' b o) (hB : ∀ b o, ¬ B b → b < w.heap.size → S' b o) : ∀ (rs : List DV) (vs : List Value) (gs : List Nat), ResL B w S rs vs gs → RdL w S' (rs.map ro1) vs
  | [], vs, gs, h => by simp only [ResL] at h; simpa only [List.map_nil, RdL] using h.1
  | r :: rs, vs, gs, h => by
    by_cases hown : ∃ el sz es, r = .sl (.own el) sz es
    · obtain ⟨el, sz, es, rfl⟩ := hown
      simp only [ResL] at h
      obtain ⟨v, vs', g, gs', rfl, rfl, ho, _, hrest⟩ := h
      simp only [List.map_cons, RdL]
      exact ⟨v, vs', rfl, ho.read hS fun o => hB _ _ ho.choose_spec.2.2.base ho.choose_spec.2.2.lt, ResL.read hS hB rs vs' gs' hrest⟩
    · by_cases hown2 : ∃ el sz es, r = .sl (.own2 el) sz es
      · obtain ⟨el, sz, es, rfl⟩ := hown2
        simp only [ResL] at h
        obtain ⟨v, vs', g, hs, gs', rfl, rfl, ho, _, _, hrest⟩ := h
        simp only [List.map_cons, RdL]
        exact ⟨v, vs', rfl, ro1_sound (ho.read hS hB), ResL.read hS hB rs vs' gs' hrest⟩
      have hres : ∃ v vs', vs = v :: vs' ∧ RdD w S r v ∧ ResL B w S rs vs' gs := by
        cases r <;> try (simpa only [ResL] using h)
        rename_i k sz es
        cases k <;> first | (simpa only [ResL] using h) | exact absurd ⟨_, _, _, rfl⟩ hown | exact absurd ⟨_, _, _, rfl⟩ hown2
      obtain ⟨v, vs', rfl, h1, h2⟩ := hres
      simp only [List.map_cons, RdL]
      exact ⟨v, vs', rfl, ro1_sound (RdD.kept ⟨hS, fun _ _ _ _ h => h⟩ r v h1), ResL.read hS hB rs vs' gs h2⟩
theorem Res.read {B : Nat → Prop} {S' : Nat → Nat → Prop} (hS : ∀ b o, S b o → S' b o) (hB : ∀ b o, ¬ B b → b < w.heap.size → S' b o) {r : DV} {v : Value} (h : Res B w S r v) : RdD w S' (roTop r) v := by
  have other : RdD w S r v → RdD w S' (roTop r) v := fun hr => roTop_sound (RdD.kept ⟨hS, fun _ _ _ _ h => h⟩ r v hr)
  cases r with
  | sl k sz es =>
    cases k with
    | own el =>
      simp only [Res] at h
      obtain ⟨g, ho⟩ := h
      exact ho.read hS fun o => hB _ _ ho.choose_spec.2.2.base ho.choose_spec.2.2.lt
    | own2 el =>
      simp only [Res, ResL] at h
      obtain ⟨gs, v', vs', g, hs, gs', he, _, ho, _⟩ := h
      cases he
      exact ro1_sound (ho.read hS hB)
    | _ => exact other h
  | tuple rs =>
    simp only [Res] at h
    obtain ⟨vs, gs, rfl, hl⟩ := h
    simp only [roTop, RdD]
    exact ⟨vs, rfl, ResL.read hS hB rs vs gs hl⟩
  | agg rs =>
    simp only [Res] at h
    obtain ⟨vs, gs, rfl, hl⟩ := h
    simp only [roTop, RdD]
    exact ⟨vs, rfl, ResL.read hS hB rs vs gs hl⟩
  | _ => exact other h

theorem gcall_sound (hI : Inv w0 S0 N ρ S st a w) (hcall : CallOk P call) {f : FuncId} {o : Oper} {avs : List AV} {vs : List Value} {ds : List DV} {r : DV}
    (hl : RdAL w S ρ avs vs) (hds : ∀ S', (∀ v ∈ avs, ∀ x u, snap st v = some x → RdA w S ρ v u → RdD w S' x u) → ∃ us : List Value, RdL w S' ds us ∧ (execOp a.eval o).run P w = (callFunc f us.toArray).run P w)
    (hr : call f ds = some r) (hany : (anySiteL avs && !r.plain) = false) (hK : ∀ u w' S', (∀ st2, Inv w0 S0 N ρ S st2 a w → Inv w0 S0 N ρ S' st2 a w') → RdA w' S' ρ (.d (roTop r)) u → K (a.put o.dst u) w') : o.wp P a w K Q := by
  have hcon := hcall f ds r hr
  have finish : ∀ (us : List Value), (execOp a.eval o).run P w = (callFunc f us.toArray).run P w →
      (CallP P f us.toArray w fun v w' => ∃ S', (∀ st2, Inv w0 S0 N ρ S st2 a w → Inv w0 S0 N ρ S' st2 a w') ∧ RdD w' S' (roTop r) v) → o.wp P a w K Q := by
    intro us hrun hc
    unfold Oper.wp
    rcases hc with ⟨⟨fn, hfn, hname, hbody⟩, hc⟩ | ⟨v, w', hrv, S', hi, hv⟩
    · have henter : (callFunc f us.toArray).run P w = .ok (.enter f us.toArray) w := by
        simp only [callFunc, Sem.run_bind, run_program, Result.andThen_ok, hfn, hname, hbody, Bool.false_eq_true, if_false, Sem.run_pure]
      rw [hrun, henter]
      rw [Oper.upon_enter]
      refine hc.mono fun e w' he => ?_
      obtain ⟨v, rfl, S', hi, hv⟩ := he
      exact hK v w' S' hi (by simpa only [RdA] using hv)
    · rw [hrun, hrv]
      exact hK v w' S' hi (by simpa only [RdA] using hv)
  have close : ∀ (S1 : Nat → Nat → Prop) (w' : World) (v : Value), BelowP (fun k => k < w.heap.size) w w' → (∀ b o, S b o → S1 b o) → (∀ b o, S1 b o → S b o ∨ ¬ b < w.heap.size) → (∀ b o, S1 b o → b < w'.heap.size) → Res (fun k => k < w.heap.size) w' S1 r v →
      ∃ S', (∀ st2, Inv w0 S0 N ρ S st2 a w → Inv w0 S0 N ρ S' st2 a w') ∧ RdD w' S' (roTop r) v := by
    intro S1 w' v hb hup hnew hlive hres
    refine ⟨fun b o => S1 b o ∨ (¬ b < w.heap.size ∧ b < w'.heap.size), fun st2 hI2 => hI2.called hb (fun b o h => .inl (hup b o h)) (fun b o h => ?_) (fun b o h => ?_), hres.read (fun _ _ h => .inl h) fun b o h1 h2 => .inr ⟨h1, h2⟩⟩
    · rcases h with h | h
      · exact hnew b o h
      · exact .inr h.1
    · rcases h with h | h
      · exact hlive b o h
      · exact h.2
  by_cases hany2 : anySiteL avs = true
  · have hpl : r.plain = true := by simpa [hany2] using hany
    obtain ⟨us, hus, hrun⟩ := hds (Sall st ρ S) fun v _ x u hx hv => snap_all hI hx hv
    refine finish us hrun ((hcon w us (Sall st ρ S) _ hus.args (Sall_lt hI)).mono fun v w' he => ?_)
    obtain ⟨S', hp⟩ := he
    have hlive : ∀ b o, S b o → b < w'.heap.size := fun b o h => Nat.lt_of_lt_of_le (hI.live b o h) hp.below.size
    obtain ⟨S2, h1, h2⟩ := close S w' v hp.below (fun _ _ h => h) (fun _ _ h => .inl h) hlive (hp.res.plain (fun g o hg h => by
      exact hg (hI.live g o h)) hpl)
    exact ⟨S2, h1, h2⟩
  · have hany' : anySiteL avs = false := by simpa using hany2
    obtain ⟨us, hus, hrun⟩ := hds S fun v hv x u hx hr' => snap_none hI hx hr' (by
      have key : ∀ (l : List AV), anySiteL l = false → ∀ c ∈ l, c.anySite = false := by
        intro l
        induction l with
        | nil => simp
        | cons y l ih =>
          intro h c hc
          simp only [anySiteL, Bool.or_eq_false_iff] at h
          rcases List.mem_cons.1 hc with rfl | hc
          · exact h.1
          · exact ih h.2 c hc
      exact key avs hany' v hv)
    refine finish us hrun ((hcon w us S _ hus.args hI.live).mono fun v w' he => ?_)
    obtain ⟨S', hp⟩ := he
    obtain ⟨S2, h1, h2⟩ := close S' w' v hp.below hp.up hp.new hp.live hp.res
    exact ⟨S2, h1, h2⟩

theorem gop_call (hI : Inv w0 S0 N ρ S st a w) (hcall : CallOk P call) {dst : Option Tmp} {c : Call} {type : TypeId} {pos : String} {after : Array Edge} {guard : Option (Nat × Bool)} {op : AOp}
    (hc : cCall P c type = some op) {v : AV} (h : gVal call op st = some v) (hK : ∀ u w' S', (∀ st2, Inv w0 S0 N ρ S st2 a w → Inv w0 S0 N ρ S' st2 a w') → RdA w' S' ρ v u → K (a.put dst u) w') :
    Oper.wp P ⟨dst, .call c, type, pos, after, guard⟩ a w K Q := by
  have hval : gVal call op st = aVal st op → Oper.wp P ⟨dst, .call c, type, pos, after, guard⟩ a w K Q := fun he => by
    rw [he] at h
    obtain ⟨u, hr, hu⟩ := call_val (dst := dst) (pos := pos) (after := after) (guard := guard) hI hc v h
    exact wp_value hr (hK u w S (fun _ h => h) hu)
  obtain ⟨callee, args, argTypes⟩ := c
  unfold cCall at hc
  dsimp only at hc
  split at hc
  · split at hc
    · split at hc
      · cases hc
        exact hval rfl
      · cases hc
    · cases hc
  · simp only [Option.map_eq_some_iff] at hc
    obtain ⟨axs, hm, rfl⟩ := hc
    exact hval rfl
  · simp only [Option.map_eq_some_iff] at hc
    obtain ⟨axs, hm, rfl⟩ := hc
    exact hval rfl
  · split at hc
    · split at hc
      · split at hc
        · split at hc
          · split at hc
            · cases hc
              exact hval rfl
            · cases hc
          · cases hc
        · cases hc
      · cases hc
    · cases hc
  · rename_i f
    split at hc
    · rename_i g fx axs hfx hm
      split at hc
      · cases hc
        simp [gVal, aVal] at h
      cases hc
      simp only [gVal] at h
      split at h
      · rename_i ds hds
        split at h
        · rename_i r hr
          split at h
          · cases h
          · rename_i hany
            cases h
            have hl := axs_sound hI hm
            refine gcall_sound hI hcall hl (fun S' hs => ?_) hr (by simpa using hany) hK
            refine ⟨args.toList.map a.eval, mapO_snap hds hl hs, ?_⟩
            simp only [execOp, resolve, Act.eval, Deferred.ofValue, Sem.run_bind, Sem.run_pure, Result.andThen_ok, invoke, Array.empty_append, Array.append_empty]
            rw [← Array.toList_map, Array.toArray_toList]
        · cases h
      · cases h
    · rename_i fo fA _ _ fx axs hneg hm hfx
      cases hc
      simp only [gVal] at h
      split at h
      · rename_i g caps ds hg hds
        split at h
        · rename_i r hr
          split at h
          · cases h
          · rename_i hany
            cases h
            have hl := axs_sound hI hm
            have hfs := ax_sound hI hfx
            refine gcall_sound hI hcall (vs := a.eval fo :: args.toList.map a.eval) (avs := fx.ev st :: axs.map (·.ev st)) (by simp only [RdAL]; exact ⟨_, _, rfl, hfs, hl⟩) (fun S' hs => ?_) hr (by simpa using hany) hK
            have hfv := hs (fx.ev st) (by simp) _ _ hg hfs
            simp only [RdD] at hfv
            obtain ⟨us, hfe, hul⟩ := hfv
            refine ⟨args.toList.map a.eval ++ us, ?_, ?_⟩
            · have h1 := mapO_snap hds hl (S' := S') fun v hv => hs v (by simp [hv])
              exact call_op.RdL_append _ _ _ _ h1 hul
            · simp only [execOp, resolve, hfe, Deferred.ofValue, Sem.run_bind, Sem.run_pure, Result.andThen_ok, invoke, Array.empty_append]
              rw [← Array.toList_map, ← List.append_toArray, Array.toArray_toList]
        · cases h
      · cases h
    · cases hc
  · cases hc

theorem gop_box (hI : Inv w0 S0 N ρ S st a w) {o : Oper} {el sz : Nat} {x : AX} (hc : cOp P o.type o.op = some (.box el sz x)) {v : AV} (h : gVal call (.box el sz x) st = some v)
    (hK : ∀ u w' S', (∀ st2, Inv w0 S0 N ρ S st2 a w → Inv w0 S0 N ρ S' st2 a w') → RdA w' S' ρ v u → K (a.put o.dst u) w') : o.wp P a w K Q := by
  obtain ⟨dst, oop, type, pos, after, guard⟩ := o
  cases oop <;> simp only [cOp, reduceCtorEq] at hc
  case box el' x' =>
    split at hc
    · rename_i ax sz' hx hs
      cases hc
      simp only [gVal] at h
      split at h
      · rename_i ds hds
        split at h
        · rename_i hcond
          cases h
          obtain ⟨u, w1, S', hr, hi, hu⟩ := box_data (P := P) hI (el := el) (ax_sound hI hx) hds hcond.2
          refine wp_value (u := .pointer (some u)) (w1 := w1) (by simp only [execOp, Instr.box, Sem.run_bind, hr, Result.andThen_ok, Sem.run_pure]) (hK _ w1 S' hi (by simpa only [RdA] using hu))
        · cases h
      · cases h
    · cases hc
  case call c =>
    exfalso
    unfold cCall at hc
    (repeat' split at hc) <;> simp_all
  all_goals exfalso
  all_goals first
    | (simp only [Option.map_eq_some_iff, reduceCtorEq, and_false, exists_false] at hc; done)
    | (repeat' split at hc) <;> simp_all

theorem gop_sound (hI : Inv w0 S0 N ρ S st a w) (hcall : CallOk P call) {o : Oper} {op : AOp} (hc : cOp P o.type o.op = some op) {v : AV} (h : gVal call op st = some v)
    (hK : ∀ u w' S', (∀ st2, Inv w0 S0 N ρ S st2 a w → Inv w0 S0 N ρ S' st2 a w') → RdA w' S' ρ v u → K (a.put o.dst u) w') : o.wp P a w K Q := by
  have hval : gVal call op st = aVal st op → o.wp P a w K Q := fun he => by
    rw [he] at h
    obtain ⟨u, hr, hu⟩ := aval_sound hI hc v h
    exact wp_value hr (hK u w S (fun _ h => h) hu)
  cases op with
  | call f args =>
    obtain ⟨dst, oop, type, pos, after, guard⟩ := o
    cases oop <;> simp only [cOp, reduceCtorEq] at hc
    case call c => exact gop_call hI hcall hc h hK
    all_goals exfalso
    all_goals first
      | (simp only [Option.map_eq_some_iff, reduceCtorEq, and_false, exists_false] at hc; done)
      | (repeat' split at hc) <;> simp_all
  | dcall f args =>
    obtain ⟨dst, oop, type, pos, after, guard⟩ := o
    cases oop <;> simp only [cOp, reduceCtorEq] at hc
    case call c => exact gop_call hI hcall hc h hK
    all_goals exfalso
    all_goals first
      | (simp only [Option.map_eq_some_iff, reduceCtorEq, and_false, exists_false] at hc; done)
      | (repeat' split at hc) <;> simp_all
  | bslice el sz len z parts =>
    obtain ⟨dst, oop, type, pos, after, guard⟩ := o
    cases oop <;> simp only [cOp, reduceCtorEq] at hc
    case buildSlice T len' parts' =>
      split at hc
      · rename_i e he
        split at hc
        · rename_i sz' z' ps hs hz hm
          split at hc
          · rename_i hcond
            cases hc
            simp only [gVal] at h
            split at h
            · rename_i hz2
              split at h
              · rename_i rows hrows
                split at h
                · rename_i ds hds
                  cases h
                  obtain ⟨u, w1, S', hr, hi, hu⟩ := bslice_data hI (elemT_under he) hs hcond.1 hz hz2.1 hz2.2 hcond.2.2 hm hrows hds
                  refine wp_value (u := u) (w1 := w1) (by simp only [execOp, Sem.run_bind, hr, Result.andThen_ok, Sem.run_pure]) (hK u w1 S' hi (by simpa only [RdA] using hu))
                · cases h
              · cases h
            · cases h
          · cases hc
        · cases hc
      · cases hc
    case call c =>
      exfalso
      unfold cCall at hc
      (repeat' split at hc) <;> simp_all
    all_goals exfalso
    all_goals first
      | (simp only [Option.map_eq_some_iff, reduceCtorEq, and_false, exists_false] at hc; done)
      | (repeat' split at hc) <;> simp_all
  | box el sz x => exact gop_box hI hc h hK
  | _ => exact hval rfl
end
end Go.Proofs.Ytjejjokdbbedlaa.Vm
