/- What a value reads as when it is handed to a call, and what a call hands back. No condition. -/
import Derived.Test.YtjejjokdbbedlaaVmI
namespace Go.Proofs.Ytjejjokdbbedlaa.Vm
open Go Go.RowKit
set_option linter.unusedVariables false
set_option linter.unusedSimpArgs false
set_option linter.unusedSectionVars false

theorem mapM_at' {α β : Type} {f : α → Option β} {l : List α} {r : List β} (h : l.mapM f = some r) : r.length = l.length ∧ ∀ (i : Nat) (x : α) (y : β), l[i]? = some x → r[i]? = some y → f x = some y := by
  refine ⟨mapM_some_length h, fun i x y hx hy => ?_⟩
  have := mapM_some_get h i x hx
  rw [this, hy]
theorem has_mem : ∀ (l : List AV) (s : Nat) (c : AV), c ∈ l → c.has s = true → hasL s l = true
  | [], s, c, h, _ => by cases h
  | x :: l, s, c, h, hc => by
    simp only [hasL, Bool.or_eq_true]
    rcases List.mem_cons.1 h with rfl | h
    · exact .inl hc
    · exact .inr (has_mem l s c h hc)

section
variable {P : Program} {w0 : Base} {S0 : Nat → Nat → Prop} {N : Nat} {ρ : Nat → Nat × Nat} {S : Nat → Nat → Prop} {st : St} {a : Act} {w : World}

theorem cellS_sound {w : World} {S : Nat → Nat → Prop} {x : DV} {u : Value} (h : RdD w S x u) : RdD w S (cellS x) u := by
  cases x with
  | sl k sz es =>
    simp only [cellS, RdD] at h ⊢
    obtain ⟨a, b, o, cap, h1, h2, h3, _, h5⟩ := h
    exact .inr ⟨a, b, o, cap, h1, h2, h3, (fun h => by cases h), h5⟩
  | _ => exact h
theorem snap_sound (hI : Inv w0 S0 N ρ S st a w) {S' : Nat → Nat → Prop} {C : Nat → Prop} (hS : ∀ b o, S b o → S' b o) (hC : ∀ s, C s → ∀ o, st.seg s = some o → ∀ p, S' (ρ s).1 p)
    (hmix : ∀ s el sz es, C s → st.seg s = some (.mix el sz es) → ∀ e ∈ es, ∀ c ∈ e, ∀ s', c.has s' = true → C s') :
    ∀ (n : Nat) (v : AV) (x : DV) (u : Value), snapCell st n v = some x → RdA w S ρ v u → (∀ s, v.has s = true → C s) → RdD w S' x u := by
  have hk : Kept w w S S' := ⟨hS, fun _ _ _ _ h => h⟩
  intro n
  induction n with
  | zero =>
    intro v x u h hr hs
    cases v <;> simp only [snapCell, Option.some.injEq, reduceCtorEq] at h
    subst h
    exact RdD.kept hk _ _ (by simpa only [RdA] using hr)
  | succ n ih =>
    have ihL : ∀ (l : List AV) (r : List DV) (us : List Value), l.mapM (snapCell st n) = some r → RdAL w S ρ l us → (∀ s, hasL s l = true → C s) → RdL w S' r us := by
      intro l r us hm hl hs
      obtain ⟨h1, h2⟩ := mapM_at' hm
      refine RdL.mk _ _ (by rw [h1]; exact RdAL.length _ _ hl) fun i y u hy hu => ?_
      have hi : i < l.length := by rw [← h1]; exact (List.getElem?_eq_some_iff.1 hy).1
      obtain ⟨u', hu', hr'⟩ := RdAL.at _ _ hl i _ (List.getElem?_eq_getElem hi)
      rw [hu] at hu'
      simp only [Option.some.injEq] at hu'
      subst hu'
      exact ih _ y u (h2 i _ y (List.getElem?_eq_getElem hi) hy) hr' fun s hs' => hs s (has_mem l s _ (List.getElem_mem hi) hs')
    intro v x u h hr hs
    cases v with
    | d y =>
      simp only [snapCell, Option.some.injEq] at h
      subst h
      exact RdD.kept hk _ _ (by simpa only [RdA] using hr)
    | undef => simp [snapCell] at h
    | w => simp [snapCell] at h
    | func f cs =>
      simp only [snapCell, Option.map_eq_some_iff] at h
      obtain ⟨r, hm, rfl⟩ := h
      simp only [RdA] at hr
      obtain ⟨us, rfl, hl⟩ := hr
      simp only [RdD]
      exact ⟨us, rfl, ihL cs r us hm hl fun s hs' => hs s (by simpa only [AV.has] using hs')⟩
    | agg cs =>
      simp only [snapCell, Option.map_eq_some_iff] at h
      obtain ⟨r, hm, rfl⟩ := h
      simp only [RdA] at hr
      obtain ⟨us, rfl, hl⟩ := hr
      simp only [RdD]
      exact ⟨us, rfl, ihL cs r us hm hl fun s hs' => hs s (by simpa only [AV.has] using hs')⟩
    | tuple cs =>
      simp only [snapCell, Option.map_eq_some_iff] at h
      obtain ⟨r, hm, rfl⟩ := h
      simp only [RdA] at hr
      obtain ⟨us, rfl, hl⟩ := hr
      simp only [RdD]
      exact ⟨us, rfl, ihL cs r us hm hl fun s hs' => hs s (by simpa only [AV.has] using hs')⟩
    | aref s sz off len =>
      have hCs := hs s (by simp [AV.has])
      simp only [snapCell] at h
      simp only [RdA] at hr
      obtain ⟨ad, cap, rfl, hb, _, hlc, hsp⟩ := hr
      cases hseg : st.seg s with
      | none => simp [hseg] at h
      | some o =>
        have hok := hI.seg s o hseg
        have hSs := hC s hCs o hseg
        obtain ⟨b, oo, sp⟩ := ad
        simp only at hsp
        subst hsp
        cases o with
        | dat el sz' es =>
          simp only [hseg] at h
          split at h
          · rename_i hc
            obtain ⟨rfl, hle⟩ := hc
            simp only [Option.some.injEq] at h
            subst h
            have hlen : ((es.drop off).take len).length = len := by simp; omega
            simp only [RdD]
            refine ⟨⟨b, oo, none⟩, b, oo, cap, by rw [hlen], fun _ => rfl, by omega, (fun h => by cases h), RdE.mk _ _ _ _ fun i e he => ?_⟩
            have hi : i < len := by rw [← hlen]; exact (List.getElem?_eq_some_iff.1 he).1
            have heq := hb (.inl (by omega))
            simp only [Addr.mk.injEq] at heq
            obtain ⟨rfl, rfl, _⟩ := heq
            rw [List.getElem?_take, if_pos hi, List.getElem?_drop] at he
            obtain ⟨hrows, hro⟩ := hok
            obtain ⟨cur, hcur, _, hcell⟩ := hro.here
            have hel := (hrows e (List.mem_of_getElem? he)).1
            refine ⟨hel, RdC.mk _ _ _ fun j c hc => ⟨hSs _, ?_⟩⟩
            obtain ⟨u, hu, hr⟩ := hcell (off + i) j (by omega) (by rw [← hel]; exact (List.getElem?_eq_some_iff.1 hc).1)
            refine ⟨u, ?_, RdD.kept hk _ _ (hr e c he hc)⟩
            rw [cell_of_row w _ _ cur el (0, 0) hcur, ← hu, Nat.add_mul]
          · cases h
        | mix el sz' es =>
          simp only [hseg] at h
          split at h
          · rename_i hc
            obtain ⟨rfl, hle⟩ := hc
            simp only [Option.map_eq_some_iff] at h
            obtain ⟨rs, hm, rfl⟩ := h
            obtain ⟨h1, h2⟩ := mapM_at' hm
            have hlen : rs.length = len := by rw [h1]; simp; omega
            simp only [RdD]
            refine ⟨⟨b, oo, none⟩, b, oo, cap, by rw [hlen], fun _ => rfl, by omega, (fun h => by cases h), RdE.mk _ _ _ _ fun i r hri => ?_⟩
            have hi : i < len := by rw [← hlen]; exact (List.getElem?_eq_some_iff.1 hri).1
            have heq := hb (.inl (by omega))
            simp only [Addr.mk.injEq] at heq
            obtain ⟨rfl, rfl, _⟩ := heq
            have he : es[off + i]? = some (es[off + i]'(by omega)) := List.getElem?_eq_getElem (by omega)
            have hfe := h2 i _ r (by rw [List.getElem?_take, if_pos hi, List.getElem?_drop]; exact he) hri
            obtain ⟨hrows, hro⟩ := hok
            obtain ⟨cur, hcur, _, hcell⟩ := hro.here
            generalize es[off + i]'(by omega) = e at he hfe
            have hel := (hrows e (List.mem_of_getElem? he)).1
            obtain ⟨g1, g2⟩ := mapM_at' hfe
            refine ⟨by omega, RdC.mk _ _ _ fun j c hc => ⟨hSs _, ?_⟩⟩
            have hj : j < sz := by rw [← hel, ← g1]; exact (List.getElem?_eq_some_iff.1 hc).1
            obtain ⟨u, hu, hr⟩ := hcell (off + i) j (by omega) hj
            have hej : e[j]? = some (e[j]'(by omega)) := List.getElem?_eq_getElem (by omega)
            obtain ⟨x, hx, rfl⟩ := Option.map_eq_some_iff.1 (g2 j _ c hej hc)
            refine ⟨u, ?_, cellS_sound (ih _ x u hx (hr e _ he hej) fun s' hs' => ?_)⟩
            · rw [cell_of_row w _ _ cur el (0, 0) hcur, ← hu, Nat.add_mul]
            · exact hmix s el sz es hCs hseg e (List.mem_of_getElem? he) _ (List.mem_of_getElem? hej) s' hs'
          · cases h
    | ptr s sz i off =>
      have hCs := hs s (by simp [AV.has])
      simp only [snapCell] at h
      simp only [RdA] at hr
      subst hr
      cases hseg : st.seg s with
      | none => simp [hseg] at h
      | some o =>
        have hok := hI.seg s o hseg
        have hSs := hC s hCs o hseg
        cases o with
        | dat el sz' es =>
          simp only [hseg] at h
          split at h
          · rename_i hc
            subst hc
            simp only [Option.map_eq_some_iff] at h
            obtain ⟨e, he, rfl⟩ := h
            obtain ⟨hrows, hro⟩ := hok
            obtain ⟨cur, hcur, _, hcell⟩ := hro.here
            have hel := (hrows e (List.mem_of_getElem? he)).1
            simp only [RdD]
            refine ⟨(ρ s).1, i * sz, rfl, RdC.mk _ _ _ fun j c hc => ⟨hSs _, ?_⟩⟩
            obtain ⟨u, hu, hr⟩ := hcell i j (List.getElem?_eq_some_iff.1 he).1 (by rw [← hel]; exact (List.getElem?_eq_some_iff.1 hc).1)
            exact ⟨u, by rw [cell_of_row w _ _ cur el (0, 0) hcur]; exact hu, RdD.kept hk _ _ (hr e c he hc)⟩
          · cases h
        | mix el sz' es =>
          simp only [hseg] at h
          split at h
          · rename_i hc
            subst hc
            cases he : es[i]? with
            | none => simp [he] at h
            | some e =>
              simp only [he, Option.bind_some, Option.map_eq_some_iff] at h
              obtain ⟨r, hfe, rfl⟩ := h
              obtain ⟨hrows, hro⟩ := hok
              obtain ⟨cur, hcur, _, hcell⟩ := hro.here
              have hel := (hrows e (List.mem_of_getElem? he)).1
              obtain ⟨g1, g2⟩ := mapM_at' hfe
              simp only [RdD]
              refine ⟨(ρ s).1, i * sz, rfl, RdC.mk _ _ _ fun j c hc => ⟨hSs _, ?_⟩⟩
              have hj : j < sz := by rw [← hel, ← g1]; exact (List.getElem?_eq_some_iff.1 hc).1
              obtain ⟨u, hu, hr⟩ := hcell i j (List.getElem?_eq_some_iff.1 he).1 hj
              have hej : e[j]? = some (e[j]'(by omega)) := List.getElem?_eq_getElem (by omega)
              obtain ⟨x, hx, rfl⟩ := Option.map_eq_some_iff.1 (g2 j _ c hej hc)
              refine ⟨u, ?_, cellS_sound (ih _ x u hx (hr e _ he hej) fun s' hs' => ?_)⟩
              · rw [cell_of_row w _ _ cur el (0, 0) hcur]; exact hu
              · exact hmix s el sz es hCs hseg e (List.mem_of_getElem? he) _ (List.mem_of_getElem? hej) s' hs'
          · cases h

/-- all that may be read, the state's own objects among it -/
def Sall (st : St) (ρ : Nat → Nat × Nat) (S : Nat → Nat → Prop) : Nat → Nat → Prop := fun b p => S b p ∨ ∃ s o, st.seg s = some o ∧ b = (ρ s).1

theorem snap_all (hI : Inv w0 S0 N ρ S st a w) {v : AV} {x : DV} {u : Value} (h : snap st v = some x) (hr : RdA w S ρ v u) : RdD w (Sall st ρ S) x u :=
  snap_sound hI (C := fun _ => True) (fun _ _ h => .inl h) (fun s _ o ho p => .inr ⟨s, o, ho, rfl⟩) (fun _ _ _ _ _ _ _ _ _ _ _ _ => trivial) 6 v x u h hr fun _ _ => trivial

mutual
theorem anySite_has : ∀ (v : AV), v.anySite = false → ∀ s, v.has s = false
  | .d _, _, s => rfl
  | .aref _ _ _ _, h, s => by simp [AV.anySite] at h
  | .ptr _ _ _ _, h, s => by simp [AV.anySite] at h
  | .undef, _, s => rfl
  | .w _ _ _, h, s => by simp [AV.anySite] at h
  | .func _ cs, h, s => by simp only [AV.anySite] at h; simp only [AV.has]; exact anySiteL_has cs h s
  | .agg cs, h, s => by simp only [AV.anySite] at h; simp only [AV.has]; exact anySiteL_has cs h s
  | .tuple cs, h, s => by simp only [AV.anySite] at h; simp only [AV.has]; exact anySiteL_has cs h s
theorem anySiteL_has : ∀ (l : List AV), anySiteL l = false → ∀ s, hasL s l = false
  | [], _, s => rfl
  | v :: l, h, s => by
    simp only [anySiteL, Bool.or_eq_false_iff] at h
    simp only [hasL, Bool.or_eq_false_iff]
    exact ⟨anySite_has v h.1 s, anySiteL_has l h.2 s⟩
end

theorem snap_none (hI : Inv w0 S0 N ρ S st a w) {v : AV} {x : DV} {u : Value} (h : snap st v = some x) (hr : RdA w S ρ v u) (hs : v.anySite = false) : RdD w S x u :=
  snap_sound hI (C := fun _ => False) (fun _ _ h => h) (fun s h => h.elim) (fun _ _ _ _ h => h.elim) 6 v x u h hr fun s h => by rw [anySite_has v hs s] at h; cases h

mutual
theorem plain_any {w w' : World} {S S' : Nat → Nat → Prop} : ∀ (x : DV) (v : Value), x.plain = true → x.isOwn = false → RdD w S x v → RdD w' S' x v
  | .int _ _, _, _, _, h => by simpa only [RdD] using h
  | .bool _, _, _, _, h => by simpa only [RdD] using h
  | .nilsl, _, _, _, h => by simpa only [RdD] using h
  | .nilptr, _, _, _, h => by simpa only [RdD] using h
  | .nilfunc, _, _, _, h => by simpa only [RdD] using h
  | .sl (.own _) _ _, _, _, h, _ => by simp [DV.isOwn] at h
  | .sl (.own2 _) _ _, _, _, h, _ => by simp [DV.isOwn] at h
  | .sl .ro _ _, _, h, _, _ => by simp [DV.plain] at h
  | .sl .tight _ _, _, h, _, _ => by simp [DV.plain] at h
  | .rptr _ _, _, h, _, _ => by simp [DV.plain] at h
  | .func f cs, v, h, _, hr => by
    simp only [DV.plain] at h
    simp only [RdD] at hr ⊢
    obtain ⟨us, rfl, hl⟩ := hr
    exact ⟨us, rfl, plainL_any cs us h hl⟩
  | .agg cs, v, h, _, hr => by
    simp only [DV.plain] at h
    simp only [RdD] at hr ⊢
    obtain ⟨us, rfl, hl⟩ := hr
    exact ⟨us, rfl, plainL_any cs us h hl⟩
  | .tuple cs, v, h, _, hr => by
    simp only [DV.plain] at h
    simp only [RdD] at hr ⊢
    obtain ⟨us, rfl, hl⟩ := hr
    exact ⟨us, rfl, plainL_any cs us h hl⟩
theorem plainL_any {w w' : World} {S S' : Nat → Nat → Prop} : ∀ (l : List DV) (us : List Value), plainL l = true → RdL w S l us → RdL w' S' l us
  | [], us, _, h => by simpa only [RdL] using h
  | x :: l, us, h, hr => by
    simp only [plainL, Bool.and_eq_true, Bool.not_eq_true'] at h
    simp only [RdL] at hr ⊢
    obtain ⟨u, us', rfl, h1, h2⟩ := hr
    exact ⟨u, us', rfl, plain_any x u h.1.1 h.1.2 h1, plainL_any l us' h.2 h2⟩
end
theorem plainLL_at : ∀ (es : List (List DV)), plainLL es = true → ∀ e ∈ es, plainL e = true
  | [], _, e, he => by cases he
  | x :: es, h, e, he => by
    simp only [plainLL, Bool.and_eq_true] at h
    rcases List.mem_cons.1 he with rfl | he
    · exact h.1
    · exact plainLL_at es h.2 e he
theorem plainL_at : ∀ (l : List DV), plainL l = true → ∀ x ∈ l, x.plain = true ∧ x.isOwn = false
  | [], _, x, hx => by cases hx
  | y :: l, h, x, hx => by
    simp only [plainL, Bool.and_eq_true, Bool.not_eq_true'] at h
    rcases List.mem_cons.1 hx with rfl | hx
    · exact h.1
    · exact plainL_at l h.2 x hx

/-! ### results -/
def OwnAt (B : Nat → Prop) (w : World) (S : Nat → Nat → Prop) (el sz : Nat) (es : List (List DV)) (v : Value) (g : Nat) : Prop :=
  ∃ cap, v = .slice (some ⟨g, 0, none⟩) es.length cap ∧ (∀ e ∈ es, e.length = sz ∧ e.all DV.one = true) ∧
    RowOk B w S g cap el sz es.length fun i j u => ∀ e c, es[i]? = some e → e[j]? = some c → RdD w S c u
def ResI (B : Nat → Prop) (w : World) (S : Nat → Nat → Prop) : List DV → List Value → List Nat → Prop
  | [], vs, gs => vs = [] ∧ gs = []
  | .sl (.own el) sz es :: rs, vs, gs => ∃ v vs' g gs', vs = v :: vs' ∧ gs = g :: gs' ∧ OwnAt B w S el sz es v g ∧ g ∉ gs' ∧ ResI B w S rs vs' gs'
  | r :: rs, vs, gs => ∃ v vs', vs = v :: vs' ∧ RdD w S r v ∧ ResI B w S rs vs' gs
/-- rows of cells, each of which may be the call's own -/
def ResR (B : Nat → Prop) (w : World) (S : Nat → Nat → Prop) : List (List DV) → List (List Value) → List Nat → Prop
  | [], uss, hs => uss = [] ∧ hs = []
  | e :: es, uss, hs => ∃ us uss' h1 h2, uss = us :: uss' ∧ hs = h1 ++ h2 ∧ ResI B w S e us h1 ∧ ResR B w S es uss' h2 ∧ ∀ x ∈ h1, x ∉ h2
/-- a slice that the call owns, and its cells too -/
def OwnDeep (B : Nat → Prop) (w : World) (S : Nat → Nat → Prop) (el sz : Nat) (es : List (List DV)) (v : Value) (g : Nat) (hs : List Nat) : Prop :=
  ∃ cap uss, v = .slice (some ⟨g, 0, none⟩) es.length cap ∧ (∀ e ∈ es, e.length = sz ∧ e.all DV.one = true) ∧
    RowOk B w S g cap el sz es.length (fun i j u => ∀ us u', uss[i]? = some us → us[j]? = some u' → u' = u) ∧ ResR B w S es uss hs ∧ g ∉ hs
def ResL (B : Nat → Prop) (w : World) (S : Nat → Nat → Prop) : List DV → List Value → List Nat → Prop
  | [], vs, gs => vs = [] ∧ gs = []
  | .sl (.own el) sz es :: rs, vs, gs => ∃ v vs' g gs', vs = v :: vs' ∧ gs = g :: gs' ∧ OwnAt B w S el sz es v g ∧ g ∉ gs' ∧ ResL B w S rs vs' gs'
  | .sl (.own2 el) sz es :: rs, vs, gs => ∃ v vs' g hs gs', vs = v :: vs' ∧ gs = g :: (hs ++ gs') ∧ OwnDeep B w S el sz es v g hs ∧ g ∉ gs' ∧ (∀ x ∈ hs, x ∉ gs') ∧ ResL B w S rs vs' gs'
  | r :: rs, vs, gs => ∃ v vs', vs = v :: vs' ∧ RdD w S r v ∧ ResL B w S rs vs' gs
def Res (B : Nat → Prop) (w : World) (S : Nat → Nat → Prop) (r : DV) (v : Value) : Prop :=
  match r with
  | .sl (.own el) sz es => ∃ g, OwnAt B w S el sz es v g
  | .sl (.own2 el) sz es => ∃ gs, ResL B w S [.sl (.own2 el) sz es] [v] gs
  | .tuple rs => ∃ vs gs, v = .tuple vs.toArray ∧ ResL B w S rs vs gs
  | .agg rs => ∃ vs gs, v = .agg vs.toArray ∧ ResL B w S rs vs gs
  | x => RdD w S x v

/-- what a call promises -/
structure Post (o : Base) (S0 : Nat → Nat → Prop) (r : DV) (v : Value) (w' : World) (S' : Nat → Nat → Prop) : Prop where
  below : BelowP o.old o.w w'
  up : ∀ b p, S0 b p → S' b p
  new : ∀ b p, S' b p → S0 b p ∨ ¬ o.old b
  live : ∀ b p, S' b p → b < w'.heap.size
  res : Res o.old w' S' r v
/-- what a call is handed: data, or an object ahead of data -/
def ArgsAt (w : World) (S0 : Nat → Nat → Prop) (ds : List DV) (vs : List Value) (o : Base) : Prop :=
  match ds with
  | .mv el sz es :: ds' => ∃ v vs' g, vs = v :: vs' ∧ OwnAt (fun _ => False) w S0 el sz es v g ∧ RdL w S0 ds' vs' ∧ o = Base.but w g
  | ds => RdL w S0 ds vs ∧ o = Base.all w
theorem RdL.args {w : World} {S0 : Nat → Nat → Prop} {ds : List DV} {vs : List Value} (h : RdL w S0 ds vs) : ArgsAt w S0 ds vs (Base.all w) := by
  cases ds with
  | nil => exact ⟨h, rfl⟩
  | cons d ds =>
    cases d <;> first
      | exact ⟨h, rfl⟩
      | (simp only [RdL, RdD] at h; obtain ⟨_, _, _, h, _⟩ := h; exact h.elim)
/-- a function with a body, its contract on some data -/
def Ent (P : Program) (f : FuncId) (ds : List DV) (r : DV) : Prop :=
  (∃ fn, P.funcs[f]? = some fn ∧ (fn.name == "runtime.NumGoroutine") = false ∧ fn.body.isNone = false) ∧
    ∀ (w : World) (vs : List Value) (S0 : Nat → Nat → Prop) (o : Base), ArgsAt w S0 ds vs o → (∀ b o, S0 b o → b < w.heap.size) →
      Calls P f vs.toArray w fun e w' => ∃ v S', e = .returned v ∧ Post o S0 r v w' S'
/-- a call, entered or answered at once -/
def CallP (P : Program) (f : FuncId) (args : Array Value) (w : World) (R : Value → World → Prop) : Prop :=
  ((∃ fn, P.funcs[f]? = some fn ∧ (fn.name == "runtime.NumGoroutine") = false ∧ fn.body.isNone = false) ∧ Calls P f args w fun e w' => ∃ v, e = .returned v ∧ R v w') ∨
  ∃ v w', (callFunc f args).run P w = .ok (.value v) w' ∧ R v w'
theorem CallP.mono {P : Program} {f : FuncId} {args : Array Value} {w : World} {R R' : Value → World → Prop} (h : CallP P f args w R) (hr : ∀ v w', R v w' → R' v w') : CallP P f args w R' := by
  rcases h with ⟨h1, h2⟩ | ⟨v, w', h1, h2⟩
  · exact .inl ⟨h1, h2.mono fun e w' ⟨v, he, h⟩ => ⟨v, he, hr v w' h⟩⟩
  · exact .inr ⟨v, w', h1, hr v w' h2⟩
def EntX (P : Program) (f : FuncId) (ds : List DV) (r : DV) : Prop :=
  ∀ (w : World) (vs : List Value) (S0 : Nat → Nat → Prop) (o : Base), ArgsAt w S0 ds vs o → (∀ b o, S0 b o → b < w.heap.size) →
    CallP P f vs.toArray w fun v w' => ∃ S', Post o S0 r v w' S'
theorem Ent.x {P : Program} {f : FuncId} {ds : List DV} {r : DV} (h : Ent P f ds r) : EntX P f ds r := fun w vs S0 o h1 h2 =>
  .inl ⟨h.1, (h.2 w vs S0 o h1 h2).mono fun e w' ⟨v, S', he, hp⟩ => ⟨v, he, S', hp⟩⟩
def CallOk (P : Program) (call : FuncId → List DV → Option DV) : Prop :=
  ∀ f ds r, call f ds = some r → EntX P f ds r

theorem OwnAt.mono {B B' : Nat → Prop} {w : World} {S : Nat → Nat → Prop} {el sz g : Nat} {es : List (List DV)} {v : Value} (h : OwnAt B w S el sz es v g) (hB : ∀ k, B' k → B k) : OwnAt B' w S el sz es v g := by
  obtain ⟨cap, h1, h2, h3⟩ := h
  exact ⟨cap, h1, h2, fun h => h3.base (hB _ h), h3.here, h3.fits, h3.len, h3.apart⟩

theorem own_place (hI : Inv w0 S0 N ρ S st a w) {t el sz g : Nat} {es : List (List DV)} {v : Value} (h : OwnAt w0.old w S el sz es v g) (hfree : ∀ s o, st.seg s = some o → (ρ s).1 ≠ g) :
    ∃ cap, Inv w0 S0 N (fun n => if n = t then (g, cap) else ρ n) S (st.at_ t (.dat el sz es)) a w ∧ RdA w S (fun n => if n = t then (g, cap) else ρ n) (.aref t sz 0 es.length) v := by
  obtain ⟨cap, rfl, hrows, hro⟩ := h
  refine ⟨cap, hI.at_ (BelowP.refl _ _) (fun _ _ _ => rfl) hfree hro.apart ⟨hrows, by simpa using hro⟩, ?_⟩
  simp only [RdA, if_true]
  exact ⟨_, _, rfl, fun _ => by simp, fun _ => rfl, hro.fits, rfl⟩

theorem placeI_len {t : Nat} : ∀ (rs : List DV) (j : Nat) (st : St), (placeI t j rs st).1.length = rs.length
  | [], j, st => rfl
  | r :: rs, j, st => by
    have other : (placeI t (j + 1) rs st).1.length + 1 = rs.length + 1 := by rw [placeI_len rs (j + 1) st]
    cases r with
    | sl k sz es =>
      cases k with
      | own el =>
        show (placeI t (j + 1) rs _).1.length + 1 = rs.length + 1
        rw [placeI_len rs (j + 1) _]
      | _ => exact other
    | _ => exact other
theorem placeI_one {t : Nat} : ∀ (rs : List DV) (j : Nat) (st : St), rs.all DV.one = true → (placeI t j rs st).1.all AV.one = true
  | [], j, st, _ => rfl
  | r :: rs, j, st, h => by
    simp only [List.all_cons, Bool.and_eq_true] at h
    have other : (AV.d r :: (placeI t (j + 1) rs st).1).all AV.one = true := by
      simp only [List.all_cons, Bool.and_eq_true]
      exact ⟨h.1, placeI_one rs (j + 1) st h.2⟩
    cases r with
    | sl k sz es =>
      cases k with
      | own el =>
        show (AV.aref _ _ _ _ :: (placeI t (j + 1) rs _).1).all AV.one = true
        simp only [List.all_cons, Bool.and_eq_true]
        exact ⟨rfl, placeI_one rs (j + 1) _ h.2⟩
      | _ => exact other
    | _ => exact other
theorem placeI_sound {base : Nat → Prop} {t : Nat} : ∀ (rs : List DV) (j : Nat) (vs : List Value) (gs used : List Nat) (st : St) (ρ : Nat → Nat × Nat), Inv w0 S0 N ρ S st a w → (∀ k, w0.old k → base k) → ResI base w S rs vs gs →
    (∀ s o, st.seg s = some o → base (ρ s).1 ∨ (ρ s).1 ∈ used) → (∀ g ∈ gs, g ∉ used) →
    ∃ ρ', Inv w0 S0 N ρ' S (placeI t j rs st).2 a w ∧ (∀ ρ2 : Nat → Nat × Nat, (∀ k, j ≤ k → k < j + rs.length → ρ2 (t + 100000 * k) = ρ' (t + 100000 * k)) → RdAL w S ρ2 (placeI t j rs st).1 vs) ∧
      (∀ n, (∀ k, j ≤ k → k < j + rs.length → n ≠ t + 100000 * k) → ρ' n = ρ n) ∧ (∀ s o, (placeI t j rs st).2.seg s = some o → base (ρ' s).1 ∨ (ρ' s).1 ∈ gs ++ used)
  | [], j, vs, gs, used, st, ρ, hI, hB, hr, hf, hg => by
    simp only [ResI] at hr
    obtain ⟨rfl, rfl⟩ := hr
    exact ⟨ρ, hI, fun _ _ => by simp only [placeI, RdAL], fun _ _ => rfl, fun s o h => by simpa using hf s o h⟩
  | r :: rs, j, vs, gs, used, st, ρ, hI, hB, hr, hf, hg => by
    by_cases hown : ∃ el sz es, r = .sl (.own el) sz es
    · obtain ⟨el, sz, es, rfl⟩ := hown
      simp only [ResI] at hr
      obtain ⟨v, vs', g, gs', rfl, rfl, ho, hng, hrest⟩ := hr
      have hbase := (ho.choose_spec.2.2).base
      have hfree : ∀ s o, st.seg s = some o → (ρ s).1 ≠ g := by
        intro s o hs
        rcases hf s o hs with h | h
        · exact fun e => hbase (e ▸ h)
        · intro he
          exact hg g (by simp) (he ▸ h)
      obtain ⟨cap, hI', hv⟩ := own_place (t := t + 100000 * j) hI (ho.mono hB) hfree
      obtain ⟨ρ', h1, h2, h3, h4⟩ := placeI_sound rs (j + 1) vs' gs' (g :: used) _ _ hI' hB hrest (by
        intro s o hs
        simp only [St.at_] at hs
        by_cases hst : s = t + 100000 * j
        · simp [hst]
        · simp only [hst, if_false] at hs ⊢
          cases hs1 : st.seg s with
          | none => simp [hs1] at hs
          | some o1 =>
            rcases hf s o1 hs1 with h | h
            · exact .inl h
            · exact .inr (by simp [h])) (by
        intro g' hg'
        simp only [List.mem_cons, not_or]
        refine ⟨fun e => hng (e ▸ hg'), hg g' (by simp [hg'])⟩)
      refine ⟨ρ', h1, fun ρ2 hρ => ?_, fun n hn => ?_, fun s o hs => ?_⟩
      · simp only [placeI, RdAL]
        refine ⟨v, vs', rfl, ?_, h2 ρ2 fun k hk1 hk2 => hρ k (by omega) (by simp only [List.length_cons]; omega)⟩
        have he := h3 (t + 100000 * j) (fun k hk _ => by omega)
        have he2 := hρ j (Nat.le_refl _) (by simp only [List.length_cons]; omega)
        simp only [RdA] at hv ⊢
        rw [he2, he]
        simpa using hv
      · rw [h3 n fun k hk hk2 => hn k (by omega) (by simp only [List.length_cons]; omega)]
        simp [hn j (Nat.le_refl _) (by simp only [List.length_cons]; omega)]
      · rcases h4 s o hs with h | h
        · exact .inl h
        · right
          simp only [List.mem_append, List.mem_cons] at h ⊢
          first
          | (rcases h with h | h | h <;> simp [h]; done)
          | (rcases h with h | h <;> simp [h]; done)
    · have hpl : placeI t j (r :: rs) st = (.d r :: (placeI t (j + 1) rs st).1, (placeI t (j + 1) rs st).2) := by
        cases r <;> try rfl
        rename_i k sz es
        cases k <;> first | rfl | exact absurd ⟨_, _, _, rfl⟩ hown
      have hres : ∃ v vs', vs = v :: vs' ∧ RdD w S r v ∧ ResI base w S rs vs' gs := by
        cases r <;> try (simpa only [ResI] using hr)
        rename_i k sz es
        cases k <;> first | (simpa only [ResI] using hr) | exact absurd ⟨_, _, _, rfl⟩ hown
      obtain ⟨v, vs', rfl, h1, h2⟩ := hres
      obtain ⟨ρ', g1, g2, g3, g4⟩ := placeI_sound rs (j + 1) vs' gs used st ρ hI hB h2 hf hg
      rw [hpl]
      refine ⟨ρ', g1, fun ρ2 hρ => ?_, fun n hn => g3 n fun k hk hk2 => hn k (by omega) (by simp only [List.length_cons]; omega), g4⟩
      simp only [RdAL, RdA]
      exact ⟨v, vs', rfl, h1, g2 ρ2 fun k hk1 hk2 => hρ k (by omega) (by simp only [List.length_cons]; omega)⟩
theorem placeR_len {t : Nat} : ∀ (es : List (List DV)) (j : Nat) (st : St), (placeR t j es st).1.length = es.length
  | [], j, st => rfl
  | e :: es, j, st => by
    show (placeR t (j + e.length) es _).1.length + 1 = es.length + 1
    rw [placeR_len es]
theorem placeR_rows {t sz : Nat} : ∀ (es : List (List DV)) (j : Nat) (st : St), (∀ e ∈ es, e.length = sz ∧ e.all DV.one = true) → ∀ e ∈ (placeR t j es st).1, e.length = sz ∧ e.all AV.one = true
  | [], j, st, _, e, he => by cases he
  | x :: es, j, st, h, e, he => by
    have hx := h x (by simp)
    rcases List.mem_cons.1 (show e ∈ (placeI t j x st).1 :: (placeR t (j + x.length) es (placeI t j x st).2).1 from he) with rfl | he
    · exact ⟨by rw [placeI_len]; exact hx.1, placeI_one x j st hx.2⟩
    · exact placeR_rows es _ _ (fun y hy => h y (by simp [hy])) e he
theorem placeR_sound {base : Nat → Prop} {t : Nat} : ∀ (es : List (List DV)) (j : Nat) (uss : List (List Value)) (hs used : List Nat) (st : St) (ρ : Nat → Nat × Nat), Inv w0 S0 N ρ S st a w → (∀ k, w0.old k → base k) → ResR base w S es uss hs →
    (∀ s o, st.seg s = some o → base (ρ s).1 ∨ (ρ s).1 ∈ used) → (∀ g ∈ hs, g ∉ used) →
    ∃ ρ', Inv w0 S0 N ρ' S (placeR t j es st).2 a w ∧ (∀ ρ2 : Nat → Nat × Nat, (∀ k, j ≤ k → k < j + cellsN es → ρ2 (t + 100000 * k) = ρ' (t + 100000 * k)) → ∀ (i : Nat) (e : List AV) (us : List Value), (placeR t j es st).1[i]? = some e → uss[i]? = some us → RdAL w S ρ2 e us) ∧
      (∀ n, (∀ k, j ≤ k → k < j + cellsN es → n ≠ t + 100000 * k) → ρ' n = ρ n) ∧ (∀ s o, (placeR t j es st).2.seg s = some o → base (ρ' s).1 ∨ (ρ' s).1 ∈ hs ++ used)
  | [], j, uss, hs, used, st, ρ, hI, hB, hr, hf, hg => by
    simp only [ResR] at hr
    obtain ⟨rfl, rfl⟩ := hr
    exact ⟨ρ, hI, fun _ _ i e us he _ => by simp [placeR] at he, fun _ _ => rfl, fun s o h => by simpa using hf s o h⟩
  | x :: es, j, uss, hs, used, st, ρ, hI, hB, hr, hf, hg => by
    simp only [ResR] at hr
    obtain ⟨us, uss', h1, h2, rfl, rfl, hx, hes, hd⟩ := hr
    obtain ⟨ρ1, i1, i2, i3, i4⟩ := placeI_sound x j us h1 used st ρ hI hB hx hf (fun g hg' => hg g (List.mem_append.2 (.inl hg')))
    obtain ⟨ρ', k1, k2, k3, k4⟩ := placeR_sound es (j + x.length) uss' h2 (h1 ++ used) _ ρ1 i1 hB hes i4 (fun g hg' hm => by
      rcases List.mem_append.1 hm with hm | hm
      · exact hd g hm hg'
      · exact hg g (List.mem_append.2 (.inr hg')) hm)
    refine ⟨ρ', k1, fun ρ2 hρ i e us2 he hu => ?_, fun n hn => ?_, fun s o hs => ?_⟩
    · cases i with
      | zero =>
        cases he
        cases hu
        refine i2 ρ2 fun k hk1 hk2 => ?_
        rw [hρ k hk1 (by simp only [cellsN]; omega)]
        exact k3 _ fun k' h1' h2' => by omega
      | succ i => exact k2 ρ2 (fun k hk1 hk2 => hρ k (by omega) (by simp only [cellsN]; omega)) i e us2 he hu
    · rw [k3 n fun k hk1 hk2 => hn k (by omega) (by simp only [cellsN]; omega)]
      exact i3 n fun k hk1 hk2 => hn k (by omega) (by simp only [cellsN]; omega)
    · rcases k4 s o hs with h | h
      · exact .inl h
      · right
        simp only [List.mem_append] at h ⊢
        first
        | (rcases h with h | h | h <;> simp [h]; done)
        | (rcases h with h | h <;> simp [h]; done)
theorem deep_place {base : Nat → Prop} {t j : Nat} {el sz g : Nat} {es : List (List DV)} {v : Value} {hs used : List Nat} {ρ : Nat → Nat × Nat} {st : St} (hI : Inv w0 S0 N ρ S st a w) (hB : ∀ k, w0.old k → base k) (h : OwnDeep base w S el sz es v g hs)
    (hf : ∀ s o, st.seg s = some o → base (ρ s).1 ∨ (ρ s).1 ∈ used) (hgu : g ∉ used) (hhu : ∀ x ∈ hs, x ∉ used) :
    ∃ ρ', Inv w0 S0 N ρ' S ((placeR t (j + 1) es st).2.at_ (t + 100000 * j) (.mix el sz (placeR t (j + 1) es st).1)) a w ∧ (∀ ρ2 : Nat → Nat × Nat, ρ2 (t + 100000 * j) = ρ' (t + 100000 * j) → RdA w S ρ2 (.aref (t + 100000 * j) sz 0 es.length) v) ∧
      (∀ n, (∀ k, j ≤ k → n ≠ t + 100000 * k) → ρ' n = ρ n) ∧ (∀ s o, ((placeR t (j + 1) es st).2.at_ (t + 100000 * j) (.mix el sz (placeR t (j + 1) es st).1)).seg s = some o → base (ρ' s).1 ∨ (ρ' s).1 ∈ (g :: hs) ++ used) := by
  obtain ⟨cap, uss, rfl, hrows, hro, hR, hgh⟩ := h
  obtain ⟨ρ1, i1, i2, i3, i4⟩ := placeR_sound (t := t) es (j + 1) uss hs used st ρ hI hB hR hf hhu
  have hbase := hro.base
  have hfree : ∀ s o, (placeR t (j + 1) es st).2.seg s = some o → (ρ1 s).1 ≠ g := by
    intro s o hs' he
    rcases i4 s o hs' with h | h
    · exact hbase (he ▸ h)
    · rcases List.mem_append.1 h with h | h
      · exact hgh (he ▸ h)
      · exact hgu (he ▸ h)
  have hrl := placeR_len (t := t) es (j + 1) st
  refine ⟨_, i1.at_ (t := t + 100000 * j) (cap := cap) (BelowP.refl _ _) (fun _ _ _ => rfl) hfree hro.apart ⟨placeR_rows es _ _ hrows, ?_⟩, fun ρ2 hρ => ?_, fun n hn => ?_, fun s o hs' => ?_⟩
  · rw [hrl]
    simp only [if_true]
    refine ⟨fun h => hbase (hB _ h), ?_, hro.fits, hro.len, hro.apart⟩
    obtain ⟨cur, c1, c2, c3⟩ := hro.here
    refine ⟨cur, c1, c2, fun i' j' hi' hj' => ?_⟩
    obtain ⟨u, hu, hr⟩ := c3 i' j' hi' hj'
    refine ⟨u, hu, fun e c he hc => ?_⟩
    have hul : i' < uss.length := by
      have : ∀ (es : List (List DV)) (uss : List (List Value)) (hs : List Nat), ResR base w S es uss hs → uss.length = es.length := by
        intro es
        induction es with
        | nil => intro uss hs h; simp only [ResR] at h; rw [h.1]; rfl
        | cons x es ih =>
          intro uss hs h
          simp only [ResR] at h
          obtain ⟨_, _, _, _, rfl, _, _, h, _⟩ := h
          simp only [List.length_cons, ih _ _ h]
      rw [this _ _ _ hR]
      exact hi'
    have hrd := i2 (fun n => if n = t + 100000 * j then (g, cap) else ρ1 n) (fun k hk1 hk2 => by
      rw [if_neg (by omega)]) i' e uss[i'] he (List.getElem?_eq_getElem hul)
    obtain ⟨u', hu', hr'⟩ := RdAL.at _ _ hrd j' c hc
    rw [← hr _ u' (List.getElem?_eq_getElem hul) hu']
    exact hr'
  · simp only [RdA]
    rw [hρ]
    simp only [if_true]
    exact ⟨_, _, rfl, fun _ => by simp, fun _ => rfl, hro.fits, rfl⟩
  · simp only [if_neg (hn j (Nat.le_refl _))]
    exact i3 n fun k hk1 hk2 => hn k (by omega)
  · simp only [St.at_] at hs'
    by_cases hst : s = t + 100000 * j
    · simp [hst]
    · simp only [hst, if_false] at hs' ⊢
      cases hs1 : (placeR t (j + 1) es st).2.seg s with
      | none => simp [hs1] at hs'
      | some o1 =>
        rcases i4 s o1 hs1 with h | h
        · exact .inl h
        · right
          simp only [List.mem_append, List.mem_cons] at h ⊢
          first
          | (rcases h with h | h | h <;> simp [h]; done)
          | (rcases h with h | h <;> simp [h]; done)
theorem placeL_sound {base : Nat → Prop} {t : Nat} : ∀ (rs : List DV) (j : Nat) (vs : List Value) (gs used : List Nat) (st : St) (ρ : Nat → Nat × Nat), Inv w0 S0 N ρ S st a w → (∀ k, w0.old k → base k) → ResL base w S rs vs gs →
    (∀ s o, st.seg s = some o → base (ρ s).1 ∨ (ρ s).1 ∈ used) → (∀ g ∈ gs, g ∉ used) →
    ∃ ρ', Inv w0 S0 N ρ' S (placeL t j rs st).2 a w ∧ RdAL w S ρ' (placeL t j rs st).1 vs ∧ ∀ n, (∀ k, j ≤ k → n ≠ t + 100000 * k) → ρ' n = ρ n
  | [], j, vs, gs, used, st, ρ, hI, hB, hr, hf, hg => by
    simp only [ResL] at hr
    obtain ⟨rfl, rfl⟩ := hr
    exact ⟨ρ, hI, by simp only [placeL, RdAL], fun _ _ => rfl⟩
  | r :: rs, j, vs, gs, used, st, ρ, hI, hB, hr, hf, hg => by
    by_cases hown : ∃ el sz es, r = .sl (.own el) sz es
    · obtain ⟨el, sz, es, rfl⟩ := hown
      simp only [ResL] at hr
      obtain ⟨v, vs', g, gs', rfl, rfl, ho, hng, hrest⟩ := hr
      have hbase := (ho.choose_spec.2.2).base
      have hfree : ∀ s o, st.seg s = some o → (ρ s).1 ≠ g := by
        intro s o hs
        rcases hf s o hs with h | h
        · exact fun e => hbase (e ▸ h)
        · intro he
          exact hg g (by simp) (he ▸ h)
      obtain ⟨cap, hI', hv⟩ := own_place (t := t + 100000 * j) hI (ho.mono hB) hfree
      obtain ⟨ρ', h1, h2, h3⟩ := placeL_sound rs (j + 1) vs' gs' (g :: used) _ _ hI' hB hrest (by
        intro s o hs
        simp only [St.at_] at hs
        by_cases hst : s = t + 100000 * j
        · simp [hst]
        · simp only [hst, if_false] at hs ⊢
          cases hs1 : st.seg s with
          | none => simp [hs1] at hs
          | some o1 =>
            rcases hf s o1 hs1 with h | h
            · exact .inl h
            · exact .inr (by simp [h])) (by
        intro g' hg'
        simp only [List.mem_cons, not_or]
        refine ⟨fun e => hng (e ▸ hg'), hg g' (by simp [hg'])⟩)
      refine ⟨ρ', h1, ?_, fun n hn => ?_⟩
      · simp only [placeL, RdAL]
        refine ⟨v, vs', rfl, ?_, h2⟩
        have he := h3 (t + 100000 * j) (fun k hk => by omega)
        simp only [RdA] at hv ⊢
        rw [he]
        simpa using hv
      · rw [h3 n fun k hk => hn k (by omega)]
        simp [hn j (Nat.le_refl _)]
    · by_cases hown2 : ∃ el sz es, r = .sl (.own2 el) sz es
      · obtain ⟨el, sz, es, rfl⟩ := hown2
        simp only [ResL] at hr
        obtain ⟨v, vs', g, hs, gs', rfl, rfl, ho, hng, hnh, hrest⟩ := hr
        obtain ⟨ρ1, d1, d2, d3, d4⟩ := deep_place (t := t) (j := j) hI hB ho hf (hg g (by simp)) (fun x hx => hg x (by simp [hx]))
        obtain ⟨ρ', h1, h2, h3⟩ := placeL_sound rs (j + 1 + cellsN es) vs' gs' ((g :: hs) ++ used) _ _ d1 hB hrest d4 (by
          intro g' hg' hm
          simp only [List.mem_append, List.mem_cons] at hm
          rcases hm with (rfl | hm) | hm
          · exact hng hg'
          · exact hnh g' hm hg'
          · exact hg g' (by simp [hg']) hm)
        refine ⟨ρ', h1, ?_, fun n hn => ?_⟩
        · simp only [placeL, RdAL]
          exact ⟨v, vs', rfl, d2 ρ' (h3 _ fun k hk => by omega), h2⟩
        · rw [h3 n fun k hk => hn k (by omega)]
          exact d3 n fun k hk => hn k hk
      have hpl : placeL t j (r :: rs) st = (.d r :: (placeL t (j + 1) rs st).1, (placeL t (j + 1) rs st).2) := by
        cases r <;> try rfl
        rename_i k sz es
        cases k <;> first | rfl | exact absurd ⟨_, _, _, rfl⟩ hown | exact absurd ⟨_, _, _, rfl⟩ hown2
      have hres : ∃ v vs', vs = v :: vs' ∧ RdD w S r v ∧ ResL base w S rs vs' gs := by
        cases r <;> try (simpa only [ResL] using hr)
        rename_i k sz es
        cases k <;> first | (simpa only [ResL] using hr) | exact absurd ⟨_, _, _, rfl⟩ hown | exact absurd ⟨_, _, _, rfl⟩ hown2
      obtain ⟨v, vs', rfl, h1, h2⟩ := hres
      obtain ⟨ρ', g1, g2, g3⟩ := placeL_sound rs (j + 1) vs' gs used st ρ hI hB h2 hf hg
      rw [hpl]
      refine ⟨ρ', g1, ?_, fun n hn => g3 n fun k hk => hn k (by omega)⟩
      simp only [RdAL, RdA]
      exact ⟨v, vs', rfl, h1, g2⟩

theorem ResL.toRdL {B : Nat → Prop} : ∀ (rs : List DV) (vs : List Value) (gs : List Nat), rs.any DV.isOwn = false → ResL B w S rs vs gs → RdL w S rs vs
  | [], vs, gs, _, h => by simp only [ResL] at h; simp only [RdL]; exact h.1
  | r :: rs, vs, gs, ho, h => by
    simp only [List.any_cons, Bool.or_eq_false_iff] at ho
    have : ∃ v vs', vs = v :: vs' ∧ RdD w S r v ∧ ResL B w S rs vs' gs := by
      cases r <;> try (simpa only [ResL] using h)
      rename_i k sz es
      cases k <;> first | (simpa only [ResL] using h) | (simp [DV.isOwn] at ho; done)
    obtain ⟨v, vs', rfl, h1, h2⟩ := this
    simp only [RdL]
    exact ⟨v, vs', rfl, h1, ResL.toRdL rs vs' gs ho.2 h2⟩

theorem place_sound {base : Nat → Prop} (hI : Inv w0 S0 N ρ S st a w) (hB : ∀ k, w0.old k → base k) {t : Nat} (ht : t < N) {r : DV} {v : Value} (hr : Res base w S r v) (hf : ∀ s o, st.seg s = some o → base (ρ s).1) :
    InvE w0 S0 N (place t r st) (a.put (some t) v) w := by
  have plainCase : RdD w S r v → InvE w0 S0 N (st.put t (.d r)) (a.put (some t) v) w := fun h => ⟨ρ, S, hI.put ht (by simpa only [RdA] using h)⟩
  cases r with
  | sl k sz es =>
    cases k with
    | own el =>
      simp only [Res] at hr
      obtain ⟨g, ho⟩ := hr
      have hbase := (ho.choose_spec.2.2).base
      obtain ⟨cap, hI', hv⟩ := own_place (t := t) hI (ho.mono hB) (fun s o hs e => hbase (e ▸ hf s o hs))
      exact ⟨_, S, hI'.put ht hv⟩
    | own2 el =>
      simp only [Res] at hr
      obtain ⟨gs, hl⟩ := hr
      obtain ⟨ρ', h1, h2, _⟩ := placeL_sound (t := t) [.sl (.own2 el) sz es] 1 [v] gs [] st ρ hI hB hl (fun s o hs => .inl (hf s o hs)) (by simp)
      simp only [place]
      refine ⟨ρ', S, h1.put ht ?_⟩
      generalize (placeL t 1 [DV.sl (.own2 el) sz es] st).1 = l at *
      cases l with
      | nil => simp only [List.headD_nil, RdA]
      | cons c l =>
        simp only [RdAL] at h2
        obtain ⟨u, us, he, hu, _⟩ := h2
        cases he
        exact hu
    | ro => exact plainCase (by simpa only [Res] using hr)
    | tight => exact plainCase (by simpa only [Res] using hr)
  | tuple rs =>
    simp only [Res] at hr
    obtain ⟨vs, gs, rfl, hl⟩ := hr
    simp only [place]
    split
    · obtain ⟨ρ', h1, h2, _⟩ := placeL_sound (t := t) rs 1 vs gs [] st ρ hI hB hl (fun s o hs => .inl (hf s o hs)) (by simp)
      exact ⟨ρ', S, h1.put ht (by simp only [RdA]; exact ⟨vs, rfl, h2⟩)⟩
    · rename_i ho
      exact plainCase (by simp only [RdD]; exact ⟨vs, rfl, ResL.toRdL rs vs gs (by simpa using ho) hl⟩)
  | agg rs =>
    simp only [Res] at hr
    obtain ⟨vs, gs, rfl, hl⟩ := hr
    simp only [place]
    split
    · obtain ⟨ρ', h1, h2, _⟩ := placeL_sound (t := t) rs 1 vs gs [] st ρ hI hB hl (fun s o hs => .inl (hf s o hs)) (by simp)
      exact ⟨ρ', S, h1.put ht (by simp only [RdA]; exact ⟨vs, rfl, h2⟩)⟩
    · rename_i ho
      exact plainCase (by simp only [RdD]; exact ⟨vs, rfl, ResL.toRdL rs vs gs (by simpa using ho) hl⟩)
  | _ => exact plainCase (by simpa only [Res] using hr)
end
end Go.Proofs.Ytjejjokdbbedlaa.Vm
