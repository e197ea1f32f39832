/- A run of the pure machine is a call of the model's. No condition. -/
import Derived.Test.YtjejjokdbbedlaaVmN
import Derived.Test.YtjejjokdbbedlaaVmO
import Derived.LoopN
namespace Go.Proofs.Ytjejjokdbbedlaa.Vm
open Go Go.RowKit
set_option linter.unusedVariables false
set_option linter.unusedSimpArgs false
set_option linter.unusedSectionVars false

mutual
theorem has_sites : ∀ (v : AV) (s : Nat), v.has s = true → s ∈ v.sites
  | .d _, s, h => by simp [AV.has] at h
  | .undef, s, h => by simp [AV.has] at h
  | .w _ _ v, s, h => by simp only [AV.has] at h; simp only [AV.sites]; exact has_sites v s h
  | .aref s' _ _ _, s, h => by simp only [AV.has, beq_iff_eq] at h; simp [AV.sites, h]
  | .ptr s' _ _ _, s, h => by simp only [AV.has, beq_iff_eq] at h; simp [AV.sites, h]
  | .func _ cs, s, h => by simp only [AV.has] at h; simp only [AV.sites]; exact hasL_sites cs s h
  | .agg cs, s, h => by simp only [AV.has] at h; simp only [AV.sites]; exact hasL_sites cs s h
  | .tuple cs, s, h => by simp only [AV.has] at h; simp only [AV.sites]; exact hasL_sites cs s h
theorem hasL_sites : ∀ (l : List AV) (s : Nat), hasL s l = true → s ∈ sitesL l
  | [], s, h => by simp [hasL] at h
  | v :: l, s, h => by
    simp only [hasL, Bool.or_eq_true] at h
    simp only [sitesL, List.mem_append]
    rcases h with h | h
    · exact .inl (has_sites v s h)
    · exact .inr (hasL_sites l s h)
end
theorem nodup_append {l m : List Nat} : nodup (l ++ m) = true → nodup l = true ∧ nodup m = true ∧ ∀ x ∈ l, x ∉ m := by
  induction l with
  | nil => intro h; exact ⟨rfl, h, by simp⟩
  | cons x l ih =>
    intro h
    simp only [List.cons_append, nodup, Bool.and_eq_true, Bool.not_eq_true', List.contains_eq_mem, decide_eq_false_iff_not, List.mem_append, not_or] at h
    obtain ⟨h1, h2, h3⟩ := ih h.2
    refine ⟨by simp [nodup, h.1.1, h1], h2, fun y hy => ?_⟩
    rcases List.mem_cons.1 hy with rfl | hy
    · exact h.1.2
    · exact h3 y hy

section
variable {P : Program} {R : List Nat} {w0 : Base} {S0 : Nat → Nat → Prop} {N : Nat} {ρ : Nat → Nat × Nat} {S : Nat → Nat → Prop} {st st' : St} {a : Act} {w : World} {call : FuncId → List DV → Option DV}

theorem ro1_own (x : DV) : (ro1 x).isOwn = false := by
  cases x with
  | sl k sz es => cases k <;> rfl
  | _ => rfl
theorem roTop_own (x : DV) : (roTop x).isOwn = false := by
  cases x with
  | sl k sz es => cases k <;> rfl
  | _ => rfl
theorem RdL.toResL {B : Nat → Prop} : ∀ (l : List DV) (us : List Value), (∀ x ∈ l, x.isOwn = false) → RdL w S l us → ResL B w S l us []
  | [], us, _, h => by simp only [RdL] at h; simp only [ResL]; exact ⟨h, trivial⟩
  | x :: l, us, ho, h => by
    simp only [RdL] at h
    obtain ⟨u, us', rfl, h1, h2⟩ := h
    have hx := ho x (by simp)
    have hgoal : ∃ v' vs'', u :: us' = v' :: vs'' ∧ RdD w S x v' ∧ ResL B w S l vs'' [] := ⟨u, us', rfl, h1, RdL.toResL l us' (fun y hy => ho y (by simp [hy])) h2⟩
    cases x <;> try (simpa only [ResL] using hgoal)
    rename_i k sz es
    cases k <;> first | (simpa only [ResL] using hgoal) | (simp [DV.isOwn] at hx)
theorem Res_roTop {B : Nat → Prop} {x : DV} {v : Value} (h : RdD w S x v) : Res B w S (roTop x) v := by
  have h' := roTop_sound h
  have plainCase : (roTop x).isOwn = false → (∀ vs, roTop x ≠ .tuple vs) → (∀ vs, roTop x ≠ .agg vs) → Res B w S (roTop x) v := by
    intro ho ht ha
    generalize roTop x = y at *
    cases y with
    | sl k sz es => cases k <;> first | exact h' | (simp [DV.isOwn] at ho)
    | tuple vs => exact absurd rfl (ht vs)
    | agg vs => exact absurd rfl (ha vs)
    | _ => exact h'
  cases x with
  | tuple vs =>
    simp only [roTop, RdD] at h'
    obtain ⟨us, rfl, hl⟩ := h'
    simp only [roTop, Res]
    exact ⟨us, [], rfl, RdL.toResL _ _ (fun y hy => by obtain ⟨z, _, rfl⟩ := List.mem_map.1 hy; exact ro1_own z) hl⟩
  | agg vs =>
    simp only [roTop, RdD] at h'
    obtain ⟨us, rfl, hl⟩ := h'
    simp only [roTop, Res]
    exact ⟨us, [], rfl, RdL.toResL _ _ (fun y hy => by obtain ⟨z, _, rfl⟩ := List.mem_map.1 hy; exact ro1_own z) hl⟩
  | sl k sz es => cases k <;> exact plainCase rfl (fun vs h => by cases h) (fun vs h => by cases h)
  | _ => exact plainCase rfl (fun vs h => by cases h) (fun vs h => by cases h)

/-- the objects that are handed back whole -/
def ownsV (st : St) : AV → List Nat
  | .aref s sz off len =>
    match st.seg s with
    | some (.dat el sz' es) => if sz' = sz ∧ off = 0 ∧ len = es.length then [s] else []
    | some (.mix el sz' es) => if sz' = sz ∧ off = 0 ∧ len = es.length then (match wholeR st es with | some _ => s :: es.flatMap sitesL | none => []) else []
    | none => []
  | _ => []
def ownsOf (st : St) : List AV → List Nat
  | [] => []
  | v :: l => ownsV st v ++ ownsOf st l
theorem ownsV_sites (st : St) (v : AV) (s : Nat) (h : s ∈ ownsV st v) : s ∈ v.sites ∨ s ∈ v.sites.flatMap st.inner := by
  cases v with
  | aref s' sz off len =>
    simp only [ownsV] at h
    cases hseg : st.seg s' with
    | none => simp [hseg] at h
    | some o =>
      cases o with
      | dat el sz' es =>
        simp only [hseg] at h
        split at h
        · simp only [List.mem_singleton] at h
          subst h
          exact .inl (by simp [AV.sites])
        · cases h
      | mix el sz' es =>
        simp only [hseg] at h
        split at h
        · split at h
          · rcases List.mem_cons.1 h with rfl | h
            · exact .inl (by simp [AV.sites])
            · right
              simp only [AV.sites, List.flatMap_cons, List.flatMap_nil, List.append_nil, St.inner, hseg]
              exact h
          · cases h
        · cases h
  | _ => simp [ownsV] at h
theorem ownsOf_sites (st : St) : ∀ (l : List AV) (s : Nat), s ∈ ownsOf st l → s ∈ sitesL l ∨ s ∈ (sitesL l).flatMap st.inner
  | [], s, h => by simp [ownsOf] at h
  | v :: l, s, h => by
    simp only [ownsOf, List.mem_append] at h
    simp only [sitesL, List.mem_append, List.flatMap_append]
    rcases h with h | h
    · rcases ownsV_sites st v s h with h | h
      · exact .inl (.inl h)
      · exact .inr (.inl h)
    · rcases ownsOf_sites st l s h with h | h
      · exact .inl (.inr h)
      · exact .inr (.inr h)
theorem retOwn_other {st : St} {v : AV} (h : ownsV st v = []) : retOwn st v = (snap st v).map roTop := by
  cases v with
  | aref s sz off len =>
    simp only [ownsV, retOwn] at h ⊢
    cases hseg : st.seg s with
    | none => rfl
    | some o =>
      cases o with
      | dat el sz' es =>
        simp only [hseg] at h ⊢
        split at h
        · cases h
        · rename_i hc
          rw [if_neg hc]
      | mix el sz' es =>
        simp only [hseg] at h ⊢
        split at h
        · rename_i hc
          rw [if_pos hc]
          split at h
          · cases h
          · rename_i hw
            rw [hw]
        · rename_i hc
          rw [if_neg hc]
  | _ => rfl
theorem nodup_iff : ∀ (l : List Nat), nodup l = true ↔ l.Nodup
  | [] => by simp [nodup]
  | x :: l => by
    simp only [nodup, Bool.and_eq_true, Bool.not_eq_true', List.nodup_cons, nodup_iff l, List.contains_eq_mem, decide_eq_false_iff_not]

def Sown (st : St) (ρ : Nat → Nat × Nat) (S : Nat → Nat → Prop) (owns : List Nat) : Nat → Nat → Prop := fun b p => S b p ∨ ∃ s o, st.seg s = some o ∧ b = (ρ s).1 ∧ s ∉ owns

theorem own_ret (hI : Inv w0 S0 N ρ S st a w) {owns : List Nat} {s sz el : Nat} {es : List (List DV)} {u : Value} (hs : s ∈ owns) (hseg : st.seg s = some (.dat el sz es)) (hu : RdA w S ρ (.aref s sz 0 es.length) u) :
    OwnAt w0.old w (Sown st ρ S owns) el sz es u (ρ s).1 := by
  obtain ⟨hrows, hro⟩ := hI.seg s _ hseg
  simp only [RdA] at hu
  obtain ⟨ad, cap, rfl, hb, hcap, _, _⟩ := hu
  have had := hb (.inr trivial)
  have hcp := hcap trivial
  subst had
  refine ⟨(ρ s).2, by simp [hcp], hrows, hro.mono rfl (fun o h => ?_) fun i j u hu e c he hc => RdD.kept ⟨fun _ _ h => .inl h, fun _ _ _ _ h => h⟩ c u (hu e c he hc)⟩
  rcases h with h | ⟨s', o', hs', he, hn⟩
  · exact hro.apart o h
  · have := hI.apart s s' _ _ hseg hs' he
    subst this
    exact hn hs

theorem snap_ret (hI : Inv w0 S0 N ρ S st a w) {owns : List Nat} {v : AV} {x : DV} {u : Value} (hno : ∀ s, v.has s = true → s ∉ owns) (hin : ∀ s, v.has s = true → ∀ s' ∈ st.inner s, st.isDat s' = true ∧ s' ∉ owns) (h : snap st v = some x) (hu : RdA w S ρ v u) :
    RdD w (Sown st ρ S owns) x u := by
  refine snap_sound hI (C := fun s => v.has s = true ∨ (st.isDat s = true ∧ s ∉ owns)) (fun _ _ h => .inl h) (fun s hs o ho p => .inr ⟨s, o, ho, rfl, ?_⟩) (fun s el sz es hs hseg e he c hc s' hs' => ?_) 6 v x u h hu fun s hs => .inl hs
  · rcases hs with hs | ⟨hs, _⟩
    · refine .inr (hin s hs s' ?_)
      simp only [St.inner, hseg]
      refine List.mem_flatMap.2 ⟨e, he, ?_⟩
      have : ∀ (l : List AV), c ∈ l → s' ∈ sitesL l := by
        intro l
        induction l with
        | nil => intro h; cases h
        | cons y l ih =>
          intro h
          simp only [sitesL, List.mem_append]
          rcases List.mem_cons.1 h with rfl | h
          · exact .inl (has_sites c s' hs')
          · exact .inr (ih h)
      exact this e hc
    · simp [St.isDat, hseg] at hs
  · rcases hs with hs | ⟨_, hs⟩
    · exact hno s hs
    · exact hs

theorem whole_res (hI : Inv w0 S0 N ρ S st a w) {owns : List Nat} : ∀ (e : List AV) (r : List DV) (us : List Value), mapO (wholeOwn st) e = some r → RdAL w S ρ e us → (sitesL e).Nodup → (∀ s ∈ sitesL e, s ∈ owns) →
    ResI w0.old w (Sown st ρ S owns) r us ((sitesL e).map fun s => (ρ s).1) ∧ r.length = e.length ∧ r.all DV.one = true ∧ ∀ s ∈ sitesL e, ∃ o, st.seg s = some o
  | [], r, us, hm, hl, _, _ => by
    simp only [mapO, Option.some.injEq] at hm
    subst hm
    simp only [RdAL] at hl
    exact ⟨by simp only [ResI, sitesL, List.map_nil]; exact ⟨hl, trivial⟩, rfl, rfl, fun s hs => by simp [sitesL] at hs⟩
  | c :: e, r, us, hm, hl, hnd, hown => by
    simp only [mapO] at hm
    cases hc : wholeOwn st c with
    | none => simp [hc] at hm
    | some x =>
      cases hms : mapO (wholeOwn st) e with
      | none => simp [hc, hms] at hm
      | some r' =>
        simp only [hc, hms, Option.some.injEq] at hm
        subst hm
        simp only [RdAL] at hl
        obtain ⟨u, us', rfl, hu, hl⟩ := hl
        cases c with
        | aref s sz off len =>
          simp only [wholeOwn] at hc
          cases hseg : st.seg s with
          | none => simp [hseg] at hc
          | some o =>
            cases o with
            | mix el sz' es => simp [hseg] at hc
            | dat el sz' es =>
              simp only [hseg] at hc
              split at hc
              · rename_i hh
                obtain ⟨rfl, rfl, rfl⟩ := hh
                simp only [Option.some.injEq] at hc
                subst hc
                simp only [sitesL, AV.sites, List.singleton_append] at hnd hown ⊢
                have hnd' := List.nodup_cons.1 hnd
                obtain ⟨k1, k2, k3, k4⟩ := whole_res hI e r' us' hms hl hnd'.2 fun s' hs' => hown s' (by simp [hs'])
                refine ⟨?_, by simp [k2], by simp only [List.all_cons, k3, Bool.and_true]; rfl, fun s' hs' => ?_⟩
                · simp only [List.map_cons, ResI]
                  refine ⟨u, us', _, _, rfl, rfl, own_ret hI (hown s (by simp)) hseg hu, ?_, k1⟩
                  intro hmem
                  obtain ⟨s', hs', he'⟩ := List.mem_map.1 hmem
                  obtain ⟨o', hseg'⟩ := k4 s' hs'
                  have := hI.apart s s' _ _ hseg hseg' he'.symm
                  subst this
                  exact hnd'.1 hs'
                · rcases List.mem_cons.1 hs' with rfl | hs'
                  · exact ⟨_, hseg⟩
                  · exact k4 s' hs'
              · cases hc
        | _ => simp [wholeOwn] at hc
theorem wholeR_res (hI : Inv w0 S0 N ρ S st a w) {owns : List Nat} : ∀ (es : List (List AV)) (rows : List (List DV)) (uss : List (List Value)), wholeR st es = some rows → uss.length = es.length → (∀ (i : Nat) (e : List AV) (us : List Value), es[i]? = some e → uss[i]? = some us → RdAL w S ρ e us) → (es.flatMap sitesL).Nodup → (∀ s ∈ es.flatMap sitesL, s ∈ owns) →
    ResR w0.old w (Sown st ρ S owns) rows uss ((es.flatMap sitesL).map fun s => (ρ s).1) ∧ rows.length = es.length ∧ (∀ sz, (∀ e ∈ es, e.length = sz) → ∀ r ∈ rows, r.length = sz ∧ r.all DV.one = true) ∧ ∀ s ∈ es.flatMap sitesL, ∃ o, st.seg s = some o
  | [], rows, uss, hm, hl, _, _, _ => by
    simp only [wholeR, Option.some.injEq] at hm
    subst hm
    have : uss = [] := List.eq_nil_of_length_eq_zero hl
    subst this
    exact ⟨by simp [ResR], rfl, fun _ _ r hr => by (cases hr), fun s hs => by simp at hs⟩
  | e :: es, rows, [], hm, hl, _, _, _ => by simp at hl
  | e :: es, rows, us :: uss, hm, hl, hrd, hnd, hown => by
    simp only [wholeR] at hm
    cases hc : mapO (wholeOwn st) e with
    | none => simp [hc] at hm
    | some x =>
      cases hms : wholeR st es with
      | none => simp [hc, hms] at hm
      | some r' =>
        simp only [hc, hms, Option.some.injEq] at hm
        subst hm
        simp only [List.flatMap_cons] at hnd hown ⊢
        obtain ⟨n1, n2, n3⟩ := List.nodup_append.1 hnd
        obtain ⟨k1, k2, k3, k4⟩ := whole_res hI e x us hc (hrd 0 e us rfl rfl) n1 fun s hs => hown s (List.mem_append.2 (.inl hs))
        obtain ⟨m1, m2, m3, m4⟩ := wholeR_res hI es r' uss hms (by simpa using hl) (fun i e' us' he hu => hrd (i + 1) e' us' he hu) n2 fun s hs => hown s (List.mem_append.2 (.inr hs))
        refine ⟨?_, by simp [m2], fun sz hsz r hr => ?_, fun s hs => ?_⟩
        · simp only [ResR, List.map_append]
          refine ⟨us, uss, _, _, rfl, rfl, k1, m1, fun g hg hg2 => ?_⟩
          obtain ⟨s, hs, rfl⟩ := List.mem_map.1 hg
          obtain ⟨s', hs', he'⟩ := List.mem_map.1 hg2
          obtain ⟨o, ho⟩ := k4 s hs
          obtain ⟨o', ho'⟩ := m4 s' hs'
          have := hI.apart s s' _ _ ho ho' he'.symm
          exact n3 s hs s' hs' this
        · rcases List.mem_cons.1 hr with rfl | hr
          · exact ⟨by rw [k2]; exact hsz e (by simp), k3⟩
          · exact m3 sz (fun e' he => hsz e' (by simp [he])) r hr
        · rcases List.mem_append.1 hs with hs | hs
          · exact k4 s hs
          · exact m4 s hs
theorem deep_ret (hI : Inv w0 S0 N ρ S st a w) {owns : List Nat} {s sz el : Nat} {es : List (List AV)} {rows : List (List DV)} {u : Value} (hs : s ∈ owns) (hseg : st.seg s = some (.mix el sz es)) (hw : wholeR st es = some rows) (hnd : (es.flatMap sitesL).Nodup) (hns : s ∉ es.flatMap sitesL) (hown : ∀ s ∈ es.flatMap sitesL, s ∈ owns) (hu : RdA w S ρ (.aref s sz 0 es.length) u) :
    OwnDeep w0.old w (Sown st ρ S owns) el sz rows u (ρ s).1 ((es.flatMap sitesL).map fun s => (ρ s).1) := by
  obtain ⟨hrows, hro⟩ := hI.seg s _ hseg
  simp only [RdA] at hu
  obtain ⟨ad, cap, rfl, hb, hcap, _, _⟩ := hu
  have had := hb (.inr trivial)
  have hcp := hcap trivial
  subst had
  obtain ⟨cur, c1, c2, c3⟩ := hro.here
  have hg : ∀ i j, i < es.length → j < sz → ∃ u, cur[i * sz + j]? = some u := fun i j hi hj => by
    obtain ⟨u, hu, _⟩ := c3 i j hi hj
    exact ⟨u, hu⟩
  obtain ⟨m1, m2, m3, m4⟩ := wholeR_res hI (owns := owns) es rows ((List.range es.length).map fun i => (List.range sz).map fun j => (cur[i * sz + j]?).getD undef) hw (by simp) (fun i e us he hus => by
    have hi := (List.getElem?_eq_some_iff.1 he).1
    have : us = (List.range sz).map fun j => (cur[i * sz + j]?).getD undef := by
      rw [List.getElem?_map, List.getElem?_range hi] at hus
      simpa using hus.symm
    subst this
    have hel := (hrows e (List.mem_of_getElem? he)).1
    refine RdAL.mk _ _ (by simp [hel]) fun j c u hc hu => ?_
    have hj : j < sz := by rw [← hel]; exact (List.getElem?_eq_some_iff.1 hc).1
    rw [List.getElem?_map, List.getElem?_range hj] at hu
    obtain ⟨u', hu', hr'⟩ := c3 i j hi hj
    simp only [Option.map_some, hu', Option.getD_some, Option.some.injEq] at hu
    subst hu
    exact hr' e c he hc) hnd hown
  refine ⟨(ρ s).2, _, by simp [hcp, m2], m3 sz fun e he => (hrows e he).1, ?_, m1, fun hm => ?_⟩
  · rw [m2]
    refine ⟨hro.base, ⟨cur, c1, c2, fun i j hi hj => ?_⟩, hro.fits, hro.len, fun o h => ?_⟩
    · obtain ⟨u, hu, _⟩ := c3 i j hi hj
      refine ⟨u, hu, fun us u' hus hu' => ?_⟩
      rw [List.getElem?_map, List.getElem?_range hi] at hus
      simp only [Option.map_some, Option.some.injEq] at hus
      subst hus
      rw [List.getElem?_map, List.getElem?_range hj] at hu'
      simpa [hu] using hu'.symm
    · rcases h with h | ⟨s', o', hs', he, hn⟩
      · exact hro.apart o h
      · have := hI.apart s s' _ _ hseg hs' he
        subst this
        exact hn hs
  · obtain ⟨s', hs', he'⟩ := List.mem_map.1 hm
    obtain ⟨o', ho'⟩ := m4 s' hs'
    have := hI.apart s s' _ _ hseg ho' he'.symm
    subst this
    exact hns hs'
theorem retL_sound (hI : Inv w0 S0 N ρ S st a w) {owns T : List Nat} : ∀ (vs : List AV) (rs : List DV) (us : List Value), mapO (retOwn st) vs = some rs → RdAL w S ρ vs us → (sitesL vs ++ (sitesL vs).flatMap st.inner).Nodup →
    (∀ s, s ∈ sitesL vs → st.siteOk T s = true) → (∀ s, s ∈ sitesL vs ++ (sitesL vs).flatMap st.inner → (s ∈ owns ↔ s ∈ ownsOf st vs)) → ResL w0.old w (Sown st ρ S owns) rs us ((ownsOf st vs).map fun s => (ρ s).1)
  | [], rs, us, hm, hl, _, _, _ => by
    simp only [mapO, Option.some.injEq] at hm
    subst hm
    simp only [RdAL] at hl
    simp only [ResL, ownsOf, List.map_nil]
    exact ⟨hl, trivial⟩
  | v :: vs, rs, us, hm, hl, hnd, hdat, hown => by
    simp only [mapO] at hm
    cases hv : retOwn st v with
    | none => simp [hv] at hm
    | some r =>
      cases hms : mapO (retOwn st) vs with
      | none => simp [hv, hms] at hm
      | some rs' =>
        simp only [hv, hms, Option.some.injEq] at hm
        subst hm
        simp only [RdAL] at hl
        obtain ⟨u, us', rfl, hu, hl⟩ := hl
        simp only [sitesL, List.flatMap_append] at hnd hdat hown
        obtain ⟨nAB, nCD, nX⟩ := List.nodup_append.1 hnd
        obtain ⟨nA, nB, nab⟩ := List.nodup_append.1 nAB
        obtain ⟨nC, nD, ncd⟩ := List.nodup_append.1 nCD
        -- what the head names, and its cells, the tail does not hand back
        have notTail : ∀ s, (s ∈ v.sites ∨ s ∈ v.sites.flatMap st.inner) → s ∉ ownsOf st vs := by
          intro s hs ht
          rcases ownsOf_sites st vs s ht with ht | ht <;> rcases hs with hs | hs
          · exact nab s hs s ht rfl
          · exact nX s (List.mem_append.2 (.inr ht)) s (List.mem_append.2 (.inl hs)) rfl
          · exact nX s (List.mem_append.2 (.inl hs)) s (List.mem_append.2 (.inr ht)) rfl
          · exact ncd s hs s ht rfl
        have hownTail : ∀ s, s ∈ sitesL vs ++ (sitesL vs).flatMap st.inner → (s ∈ owns ↔ s ∈ ownsOf st vs) := by
          intro s hs
          have hs' : s ∈ (v.sites ++ sitesL vs) ++ (v.sites.flatMap st.inner ++ (sitesL vs).flatMap st.inner) := by
            simp only [List.mem_append] at hs ⊢
            rcases hs with hs | hs
            · exact .inl (.inr hs)
            · exact .inr (.inr hs)
          rw [hown s hs']
          simp only [ownsOf, List.mem_append]
          constructor
          · rintro (h | h)
            · exfalso
              rcases ownsV_sites st v s h with h | h <;> rcases List.mem_append.1 hs with hs | hs
              · exact nab s h s hs rfl
              · exact nX s (List.mem_append.2 (.inl h)) s (List.mem_append.2 (.inr hs)) rfl
              · exact nX s (List.mem_append.2 (.inr hs)) s (List.mem_append.2 (.inl h)) rfl
              · exact ncd s h s hs rfl
            · exact h
          · exact .inr
        have ih := retL_sound hI vs rs' us' hms hl (List.nodup_append.2 ⟨nB, nD, fun x hx y hy => nX x (List.mem_append.2 (.inr hx)) y (List.mem_append.2 (.inr hy))⟩) (fun s hs => hdat s (List.mem_append.2 (.inr hs))) hownTail
        have inAll : ∀ s, (s ∈ v.sites ∨ s ∈ v.sites.flatMap st.inner) → (s ∈ owns ↔ s ∈ ownsV st v) := by
          intro s hs
          rw [hown s (by
            simp only [List.mem_append]
            rcases hs with hs | hs
            · exact .inl (.inl hs)
            · exact .inr (.inl hs))]
          simp only [ownsOf, List.mem_append]
          exact ⟨fun h => h.resolve_right (notTail s hs), .inl⟩
        have innDat : ∀ s ∈ v.sites ++ sitesL vs, ∀ s' ∈ st.inner s, st.isDat s' = true := by
          intro s hs s' hs'
          have h1 := hdat s hs
          unfold St.siteOk at h1
          unfold St.inner at hs'
          cases hseg : st.seg s with
          | none => simp [hseg] at h1
          | some o =>
            cases o with
            | dat el sz es => simp [hseg] at hs'
            | mix el sz es =>
              simp only [hseg] at h1 hs'
              obtain ⟨e, he, hs'⟩ := List.mem_flatMap.1 hs'
              simp only [List.all_eq_true, Bool.and_eq_true] at h1
              have : ∀ (l : List AV), s' ∈ sitesL l → ∃ c ∈ l, s' ∈ c.sites := by
                intro l
                induction l with
                | nil => intro h; simp [sitesL] at h
                | cons y l ih2 =>
                  intro h
                  simp only [sitesL, List.mem_append] at h
                  rcases h with h | h
                  · exact ⟨y, by simp, h⟩
                  · obtain ⟨c, hc, h⟩ := ih2 h
                    exact ⟨c, by simp [hc], h⟩
              obtain ⟨c, hc, hcs⟩ := this e hs'
              exact (h1 e he c hc s' hcs).1
        by_cases hno : ownsV st v = []
        · rw [retOwn_other hno] at hv
          simp only [Option.map_eq_some_iff] at hv
          obtain ⟨x, hx, rfl⟩ := hv
          have h1 := roTop_sound (snap_ret hI (owns := owns) (fun s hs h => by
            have := (inAll s (.inl (has_sites v s hs))).1 h
            rw [hno] at this
            cases this) (fun s hs s' hs' => ⟨innDat s (List.mem_append.2 (.inl (has_sites v s hs))) s' hs', fun h => by
            have := (inAll s' (.inr (List.mem_flatMap.2 ⟨s, has_sites v s hs, hs'⟩))).1 h
            rw [hno] at this
            cases this⟩) hx hu)
          rw [show ownsOf st (v :: vs) = ownsOf st vs by simp [ownsOf, hno]]
          have hro := roTop_own x
          have hgoal : ∃ v' vs'', u :: us' = v' :: vs'' ∧ RdD w (Sown st ρ S owns) (roTop x) v' ∧ ResL w0.old w (Sown st ρ S owns) rs' vs'' ((ownsOf st vs).map fun s => (ρ s).1) := ⟨u, us', rfl, h1, ih⟩
          generalize roTop x = y at *
          cases y <;> try (simpa only [ResL] using hgoal)
          rename_i k sz es
          cases k <;> first | (simpa only [ResL] using hgoal) | (simp [DV.isOwn] at hro; done)
        · cases v with
          | aref s sz off len =>
            cases hseg : st.seg s with
            | none => simp [ownsV, hseg] at hno
            | some o =>
              have segSome : ∀ s', s' ∈ ownsOf st vs → ∃ o', st.seg s' = some o' := by
                intro s' hs'
                rcases ownsOf_sites st vs s' hs' with h | h
                · have h1 := hdat s' (List.mem_append.2 (.inr h))
                  unfold St.siteOk at h1
                  cases hq : st.seg s' with
                  | none => simp [hq] at h1
                  | some o' => exact ⟨o', rfl⟩
                · obtain ⟨s2, hs2, hs3⟩ := List.mem_flatMap.1 h
                  have := innDat s2 (List.mem_append.2 (.inr hs2)) s' hs3
                  unfold St.isDat at this
                  cases hq : st.seg s' with
                  | none => simp [hq] at this
                  | some o' => exact ⟨o', rfl⟩
              cases o with
              | dat el sz' es =>
                by_cases hc : sz' = sz ∧ off = 0 ∧ len = es.length
                · have he : ownsV st (.aref s sz off len) = [s] := by simp [ownsV, hseg, hc]
                  simp only [retOwn, hseg, if_pos hc, Option.some.injEq] at hv
                  subst hv
                  obtain ⟨rfl, rfl, rfl⟩ := hc
                  have hs : s ∈ owns := (inAll s (.inl (by simp [AV.sites]))).2 (by rw [he]; simp)
                  simp only [ownsOf, he, List.singleton_append, List.map_cons, ResL]
                  refine ⟨u, us', _, _, rfl, rfl, own_ret hI hs hseg hu, ?_, ih⟩
                  intro hmem
                  obtain ⟨s', hs', he'⟩ := List.mem_map.1 hmem
                  obtain ⟨o', hseg'⟩ := segSome s' hs'
                  have := hI.apart s s' _ _ hseg hseg' he'.symm
                  subst this
                  exact notTail s (.inl (by simp [AV.sites])) hs'
                · exact absurd (by simp [ownsV, hseg, hc]) hno
              | mix el sz' es =>
                by_cases hc : sz' = sz ∧ off = 0 ∧ len = es.length
                · cases hw : wholeR st es with
                  | none => exact absurd (by simp [ownsV, hseg, hw]) hno
                  | some rows =>
                    have he : ownsV st (.aref s sz off len) = s :: es.flatMap sitesL := by simp [ownsV, hseg, hc, hw]
                    simp only [retOwn, hseg, if_pos hc, hw, Option.some.injEq] at hv
                    subst hv
                    obtain ⟨rfl, rfl, rfl⟩ := hc
                    have hinn : (AV.aref s sz' 0 es.length).sites.flatMap st.inner = es.flatMap sitesL := by
                      simp only [AV.sites, List.flatMap_cons, List.flatMap_nil, List.append_nil, St.inner, hseg]
                    have hs : s ∈ owns := (inAll s (.inl (by simp [AV.sites]))).2 (by rw [he]; simp)
                    have hsi : ∀ s' ∈ es.flatMap sitesL, s' ∈ owns := fun s' hs' => (inAll s' (.inr (by rw [hinn]; exact hs'))).2 (by rw [he]; simp [hs'])
                    have hns : s ∉ es.flatMap sitesL := fun h => nX s (by simp [AV.sites]) s (List.mem_append.2 (.inl (by rw [hinn]; exact h))) rfl
                    rw [hinn] at nC
                    have innSome : ∀ s' ∈ es.flatMap sitesL, ∃ o', st.seg s' = some o' := fun s' hs' => by
                      have := innDat s (List.mem_append.2 (.inl (by simp [AV.sites]))) s' (by simp only [St.inner, hseg]; exact hs')
                      unfold St.isDat at this
                      cases hq : st.seg s' with
                      | none => simp [hq] at this
                      | some o' => exact ⟨o', rfl⟩
                    simp only [ownsOf, he, List.cons_append, List.map_cons, List.map_append, ResL]
                    refine ⟨u, us', _, _, _, rfl, rfl, deep_ret hI hs hseg hw nC hns hsi hu, ?_, fun g hg hmem => ?_, ih⟩
                    · intro hmem
                      obtain ⟨s', hs', he'⟩ := List.mem_map.1 hmem
                      obtain ⟨o', hseg'⟩ := segSome s' hs'
                      have := hI.apart s s' _ _ hseg hseg' he'.symm
                      subst this
                      exact notTail s (.inl (by simp [AV.sites])) hs'
                    · obtain ⟨s1, hs1, rfl⟩ := List.mem_map.1 hg
                      obtain ⟨s', hs', he'⟩ := List.mem_map.1 hmem
                      obtain ⟨o1, hseg1⟩ := innSome s1 hs1
                      obtain ⟨o', hseg'⟩ := segSome s' hs'
                      have := hI.apart s1 s' _ _ hseg1 hseg' he'.symm
                      subst this
                      exact notTail s1 (.inr (by rw [hinn]; exact hs1)) hs'
                · exact absurd (by simp [ownsV, hseg, hc]) hno
          | _ => exact absurd rfl hno

theorem post_mk (hI : Inv w0 S0 N ρ S st a w) {owns : List Nat} {r : DV} {u : Value} (h : Res w0.old w (Sown st ρ S owns) r u) : Post w0 S0 r u w (Sown st ρ S owns) := by
  refine ⟨hI.below, fun b o h => .inl (hI.up b o h), ?_, ?_, h⟩
  · rintro b o (h | ⟨s, ob, hs, rfl, _⟩)
    · exact hI.new b o h
    · exact .inr (hI.seg s ob hs).lt.1
  · rintro b o (h | ⟨s, ob, hs, rfl, _⟩)
    · exact hI.live b o h
    · exact (hI.seg s ob hs).lt.2.1

theorem ret_sound (hI : Inv w0 S0 N ρ S st a w) {v : AV} {u : Value} {r : DV} (hu : RdA w S ρ v u) (h : retTop st v = some r) : ∃ S', Post w0 S0 r u w S' := by
  have snapCase : (snap st v).map roTop = some r → ∃ S', Post w0 S0 r u w S' := by
    intro h
    simp only [Option.map_eq_some_iff] at h
    obtain ⟨x, hx, rfl⟩ := h
    refine ⟨_, post_mk hI (owns := []) (Res_roTop ?_)⟩
    have h1 := snap_all hI hx hu
    refine RdD.kept ⟨fun b o h => ?_, fun _ _ _ _ h => h⟩ x u h1
    rcases h with h | ⟨s, ob, hs, he⟩
    · exact .inl h
    · exact .inr ⟨s, ob, hs, he, by simp⟩
  unfold retTop at h
  split at h
  · rename_i hc
    simp only [Bool.and_eq_true, List.all_eq_true] at hc
    obtain ⟨hnd, hdat⟩ := hc
    rw [nodup_iff] at hnd
    split at h
    · rename_i vs
      simp only [Option.map_eq_some_iff] at h
      obtain ⟨rs, hm, rfl⟩ := h
      simp only [RdA] at hu
      obtain ⟨us, rfl, hl⟩ := hu
      exact ⟨_, post_mk hI (owns := ownsOf st vs) (by simp only [Res]; exact ⟨us, _, rfl, retL_sound hI (T := sitesL vs) vs rs us hm hl hnd hdat fun _ _ => Iff.rfl⟩)⟩
    · rename_i vs
      simp only [Option.map_eq_some_iff] at h
      obtain ⟨rs, hm, rfl⟩ := h
      simp only [RdA] at hu
      obtain ⟨us, rfl, hl⟩ := hu
      exact ⟨_, post_mk hI (owns := ownsOf st vs) (by simp only [Res]; exact ⟨us, _, rfl, retL_sound hI (T := sitesL vs) vs rs us hm hl hnd hdat fun _ _ => Iff.rfl⟩)⟩
    · by_cases hno : ownsV st v = []
      · rw [retOwn_other hno] at h
        exact snapCase h
      obtain ⟨k, sz, es, rfl⟩ : ∃ k sz es, r = .sl k sz es := by
        cases v with
        | aref s sz off len =>
          simp only [ownsV, retOwn] at hno h
          cases hseg : st.seg s with
          | none => simp [hseg] at hno
          | some o =>
            cases o with
            | dat el sz' es =>
              simp only [hseg] at hno h
              split at hno
              · rename_i hc
                rw [if_pos hc] at h
                cases h
                exact ⟨_, _, _, rfl⟩
              · exact absurd rfl hno
            | mix el sz' es =>
              simp only [hseg] at hno h
              split at hno
              · rename_i hc
                rw [if_pos hc] at h
                split at hno
                · rename_i hw
                  rw [hw] at h
                  cases h
                  exact ⟨_, _, _, rfl⟩
                · exact absurd rfl hno
              · exact absurd rfl hno
        | _ => exact absurd rfl hno
      have hL := retL_sound hI (owns := ownsOf st [v]) (T := v.sites) [v] [.sl k sz es] [u] (by simp only [mapO, h]) (by simp only [RdAL]; exact ⟨u, [], rfl, hu, rfl⟩) (by simpa [sitesL] using hnd) (fun s hs => hdat s (by simpa [sitesL] using hs)) fun _ _ => Iff.rfl
      refine ⟨_, post_mk hI (owns := ownsOf st [v]) ?_⟩
      generalize (ownsOf st [v]).map (fun s => (ρ s).1) = gs at hL
      cases k with
      | own el =>
        simp only [ResL] at hL
        obtain ⟨v', vs', g, gs', he, _, ho, _⟩ := hL
        cases he
        exact ⟨g, ho⟩
      | own2 el => exact ⟨gs, hL⟩
      | ro =>
        simp only [ResL] at hL
        obtain ⟨v', vs', he, ho, _⟩ := hL
        cases he
        exact ho
      | tight =>
        simp only [ResL] at hL
        obtain ⟨v', vs', he, ho, _⟩ := hL
        cases he
        exact ho
  · exact snapCase h

/-! ### the code -/
theorem put_read {t d : Nat} {want : Bool} (ht : a.tmps[t]? ≠ some (.bool want)) : (a.put (some d) undef).tmps[t]? ≠ some (.bool want) := by
  intro h
  simp only [Act.put] at h
  by_cases htd : d = t
  · subst htd
    by_cases hlt : d < a.tmps.size
    · rw [Array.getElem?_setIfInBounds_self_of_lt hlt] at h
      simp [undef] at h
    · rw [Array.getElem?_eq_none (by simp; omega)] at h
      cases h
  · rw [Array.getElem?_setIfInBounds_ne htd] at h
    exact ht h

/-- the guard of a guarded operation, read -/
theorem wanted_iff {ops : Array Oper} {j t : Nat} {want : Bool} (ht : (ops[j]?).bind (·.dst) = some t) : (yielded ops a.tmps j == some want) = true ↔ a.tmps[t]? = some (.bool want) := by
  unfold yielded
  rw [ht]
  simp only [Option.bind_some]
  cases h : a.tmps[t]? with
  | none => simp
  | some v => cases v <;> simp

/-- what hangs on a guard: it runs, if the guard is so; else its slot is empty -/
theorem gput_sound (hI : Inv w0 S0 N ρ S st a w) {t d : Nat} {want : Bool} {v : AV} (hdN : d < N) (ht : a.tmps[t]? ≠ some (.bool want)) : Inv w0 S0 N ρ S (st.put d (.w t want v)) (a.put (some d) undef) w := by
  refine hI.putW hdN (fun h => absurd rfl (h _ _ _)) (fun t' want' x he h => ?_) fun _ _ _ _ _ => rfl
  cases he
  exact absurd h (put_read ht)
/-- a guarded operation whose value is known, should it run -/
theorem gins_sound (hI : Inv w0 S0 N ρ S st a w) (hcall : CallOk P call) {ops : Array Oper} {j : Nat} {o : Oper} {op : AOp} (hc : cOp P o.type o.op = some op) {t d : Nat} {want : Bool} {v : AV} (ht : (ops[j]?).bind (·.dst) = some t) (hd : o.dst = some d) (hdN : d < N) (hdt : o.dst ≠ some t)
    {h : St} (hh : a.tmps[t]? = some (.bool want) → Inv w0 S0 N ρ S h a w) (hv : gVal call op h = some v) {K : Act → World → Prop} {Q : Exit → Act → World → Prop} (hK : ∀ a' w', InvE w0 S0 N (st.put d (.w t want v)) a' w' → K a' w') :
    if (yielded ops a.tmps j == some want) = true then o.wp P a w K Q ∨ (o.asks P a w ∧ LetsOut Q) else K (a.put o.dst undef) w := by
  split
  · rename_i hy
    have hb := (wanted_iff ht).1 hy
    refine .inl (gop_sound (hh hb) hcall hc hv fun u w' S' hI' hu => hK _ _ ⟨ρ, S', ?_⟩)
    rw [hd]
    have hne : t ≠ d → (a.put (some d) u).tmps[t]? = some (.bool want) := fun hn => by
      simp only [Act.put]
      rw [Array.getElem?_setIfInBounds_ne (Ne.symm hn)]
      exact hb
    have htd : t ≠ d := fun e => hdt (by rw [e]; exact hd)
    refine (hI' st hI).putW hdN (fun h => absurd rfl (h _ _ _)) (fun t' want' x he _ => ?_) fun t' want' x he h => ?_
    · cases he
      exact hu
    · cases he
      exact absurd (hne htd) h
  · rename_i hy
    refine hK _ _ ⟨ρ, S, ?_⟩
    rw [hd]
    exact gput_sound hI hdN fun hb => hy ((wanted_iff ht).2 hb)
/-- one that does not run -/
theorem gdead_sound (hI : Inv w0 S0 N ρ S st a w) {ops : Array Oper} {j : Nat} {o : Oper} {t d : Nat} {want : Bool} {v : AV} (ht : (ops[j]?).bind (·.dst) = some t) (hd : o.dst = some d) (hdN : d < N)
    (hb : a.tmps[t]? ≠ some (.bool want)) {K : Act → World → Prop} {Q : Exit → Act → World → Prop} (hK : ∀ a' w', InvE w0 S0 N (st.put d (.w t want v)) a' w' → K a' w') :
    if (yielded ops a.tmps j == some want) = true then o.wp P a w K Q ∨ (o.asks P a w ∧ LetsOut Q) else K (a.put o.dst undef) w := by
  rw [if_neg fun hy => hb ((wanted_iff ht).1 hy)]
  refine hK _ _ ⟨ρ, S, ?_⟩
  rw [hd]
  exact gput_sound hI hdN hb

theorem ins_sound (hcall : CallOk P call) {ops : Array Oper} {o : Oper} {i : AIns} (hc : cIns P R N ops o = some i) (hI : InvE w0 S0 N st a w) (h : insStep call i st = some st') {K : Act → World → Prop}
    {Q : Exit → Act → World → Prop} (hK : ∀ a' w', InvE w0 S0 N st' a' w' → K a' w') :
    if Region.wanted o (yielded ops a.tmps) then o.wp P a w K Q ∨ (o.asks P a w ∧ LetsOut Q) else K (a.put o.dst undef) w := by
  obtain ⟨ρ, S, hI⟩ := hI
  unfold cIns at hc
  cases hop : cOp P o.type o.op with
  | none => simp [hop] at hc
  | some op =>
    simp only [hop] at hc
    split at hc
    · rename_i hd
      have hd' : ∀ d, o.dst = some d → d < N := by
        intro d hdst
        simpa [dstOk, hdst] using hd
      cases hg : o.guard with
      | none =>
        simp only [hg, Option.some.injEq] at hc
        subst hc
        simp only [insStep] at h
        simp only [Region.wanted, hg, if_true]
        split at h
        · exact .inl (op_sound hI hcall hop hd' h hK)
        · split at h
          · rename_i d hdst
            simp only [Option.map_eq_some_iff] at h
            obtain ⟨v0, hv0, rfl⟩ := h
            refine .inl (gop_sound hI hcall hop hv0 fun u w' S' hI' hu => hK _ _ ⟨ρ, S', ?_⟩)
            rw [hdst]
            exact (hI' st hI).put (hd' d hdst) hu.strip (fun t' want x he => by cases v0 <;> simp [AV.strip] at he)
          · cases h
      | some jw =>
        obtain ⟨j, want⟩ := jw
        simp only [hg] at hc
        split at hc
        · rename_i t ht
          split at hc
          · cases hc
          rename_i hdt
          simp only [Option.some.injEq] at hc
          subst hc
          simp only [insStep] at h
          simp only [Region.wanted, hg]
          split at h
          · split at h
            · rename_i g d hhyp hdst
              split at h
              · rename_i v hv
                cases h
                exact gins_sound hI hcall hop ht hdst (hd' d hdst) hdt (hypL_sound hI _ _ _ _ hhyp) hv hK
              · split at h
                · rename_i hdead
                  cases h
                  exact gdead_sound hI ht hdst (hd' d hdst) (dead_sound hI _ _ _ hdead) hK
                · cases h
            · cases h
          · split at h
            · rename_i st1 hb
              obtain ⟨h1, h2⟩ := branch_sound hI _ _ _ _ _ hb
              rw [if_pos ((wanted_iff ht).2 (h2.1 rfl))]
              exact .inl (op_sound h1 hcall hop hd' h hK)
            · rename_i st1 hb
              obtain ⟨h1, h2⟩ := branch_sound hI _ _ _ _ _ hb
              cases h
              have hb : a.tmps[t]? ≠ some (.bool want) := fun e => by
                have := h2.2 e
                cases this
              rw [if_neg fun hy => hb ((wanted_iff ht).1 hy)]
              refine hK _ _ ⟨ρ, S, ?_⟩
              cases hdst : o.dst with
              | none => exact h1
              | some d => exact gput_sound h1 (hd' d hdst) hb
            · cases h
        · cases hc
    · cases hc

theorem eStep_op {dst : Option Nat} {op : AOp} {st st' : St} (h : eStep call dst op st = some st') : opStep call dst op st = some st' := by
  cases op <;> first
    | exact h
    | skip
  case call f args =>
    cases dst with
    | none => exact h
    | some t =>
      simp only [eStep, opStep] at h ⊢
      cases hm : mapO (snap st) (args.map (·.ev st)) with
      | none => simp [hm] at h
      | some ds =>
        simp only [hm] at h ⊢
        cases hr : call f ds with
        | none => simp [hr] at h
        | some r =>
          simp only [hr, Option.bind_some] at h ⊢
          split at h
          · cases h
          · rename_i hc
            cases h
            have hc' : (anySiteL (args.map (·.ev st)) && !r.plain) = false := by simpa using hc
            simp only [gotO, got, hc', Bool.and_false, Bool.false_eq_true, if_false]
  case dcall g args => simp [eStep] at h
theorem dins_sound (hcall : CallOk P call) {ops : Array Oper} {o : Oper} {i i0 : AIns} (hc : cIns P R N ops o = some i0) (hi : (i = i0 ∧ i0.g ≠ none) ∨ (i0.g = none ∧ ∃ b u, i = { i0 with tot := b, up := u })) (hI : InvE w0 S0 N st a w) (h : dStep call i st = some st') {K : Act → World → Prop}
    {Q : Exit → Act → World → Prop} (hK : ∀ a' w', InvE w0 S0 N st' a' w' → K a' w') :
    if Region.wanted o (yielded ops a.tmps) then o.wp P a w K Q ∨ (o.asks P a w ∧ LetsOut Q) else K (a.put o.dst undef) w := by
  obtain ⟨ρ, S, hI⟩ := hI
  rcases hi with ⟨rfl, hg1⟩ | ⟨hg0, b, u, rfl⟩
  case inr =>
    unfold cIns at hc
    cases hop : cOp P o.type o.op with
    | none => simp [hop] at hc
    | some op =>
      simp only [hop] at hc
      split at hc
      · rename_i hd
        have hd' : ∀ d, o.dst = some d → d < N := by
          intro d hdst
          simpa [dstOk, hdst] using hd
        cases hg : o.guard with
        | none =>
          simp only [hg, Option.some.injEq] at hc
          subst hc
          simp only [Region.wanted, hg, if_true]
          cases b with
          | false =>
            simp only [dStep, AIns.e, Option.isNone_none, Bool.not_false, Bool.and_self, if_true] at h
            exact .inl (op_sound hI hcall hop hd' (st' := st') (eStep_op h) hK)
          | true =>
            simp only [dStep, AIns.e, Option.isNone_none, Bool.not_true, Bool.and_false, Bool.false_eq_true, if_false] at h
            split at h
            · rename_i sz x y _
              split at h
              · rename_i hdst
                refine .inl (op_sound hI hcall hop hd' (st' := st') ?_ hK)
                rw [hdst]
                exact h
              · cases h
            · obtain ⟨d, v, hdst, hv, rfl⟩ := vStep_eq h
              simp only [vRes, Option.map_eq_some_iff] at hv
              obtain ⟨v0, hv0, rfl⟩ := hv
              refine .inl (gop_sound hI hcall hop hv0 fun u w' S' hI' hu => hK _ _ ⟨ρ, S', ?_⟩)
              dsimp only at hdst
              rw [hdst]
              exact (hI' st hI).put (hd' d hdst) hu.strip (fun t' want x he => by cases v0 <;> simp [AV.strip] at he)
        | some jw =>
          obtain ⟨j, want⟩ := jw
          simp only [hg] at hc
          split at hc
          · split at hc
            · cases hc
            · cases hc
              cases hg0
          · cases hc
      · cases hc
  have he : i.e = false := by
    unfold AIns.e
    cases hg : i.g with
    | none => exact absurd hg hg1
    | some _ => rfl
  simp only [dStep, he, Bool.false_eq_true, if_false] at h
  unfold cIns at hc
  cases hop : cOp P o.type o.op with
  | none => simp [hop] at hc
  | some op =>
    simp only [hop] at hc
    split at hc
    · rename_i hd
      have hd' : ∀ d, o.dst = some d → d < N := by
        intro d hdst
        simpa [dstOk, hdst] using hd
      cases hg : o.guard with
      | none =>
        simp only [hg, Option.some.injEq] at hc
        subst hc
        exact absurd rfl hg1
      | some jw =>
        obtain ⟨j, want⟩ := jw
        simp only [hg] at hc
        split at hc
        · rename_i t ht
          split at hc
          · cases hc
          rename_i hdt
          simp only [Option.some.injEq] at hc
          subst hc
          simp only [Region.wanted, hg]
          dsimp only at h
          split at h
          · cases h
          · obtain ⟨d, v, hdst, hv, rfl⟩ := vStep_eq h
            simp only [vRes] at hv
            split at hv
            · rename_i g hhyp
              split at hv
              · split at hv
                · rename_i v0 hv0
                  cases hv
                  exact gins_sound hI hcall hop ht hdst (hd' d hdst) hdt (hypL_sound hI _ _ _ _ hhyp) hv0 hK
                · split at hv
                  · rename_i hdead
                    cases hv
                    exact gdead_sound hI ht hdst (hd' d hdst) (dead_sound hI _ _ _ hdead) hK
                  · cases hv
              · split at hv
                · rename_i hdead
                  cases hv
                  exact gdead_sound hI ht hdst (hd' d hdst) (dead_sound hI _ _ _ hdead) hK
                · simp only [Option.map_eq_some_iff] at hv
                  obtain ⟨v0, hv0, rfl⟩ := hv
                  exact gins_sound hI hcall hop ht hdst (hd' d hdst) hdt (hypL_sound hI _ _ _ _ hhyp) hv0 hK
            · cases hv
        · cases hc
    · cases hc

theorem reg_sound (hcall : CallOk P call) {ops : Array Oper} {Q : Exit → Act → World → Prop} : ∀ (n k : Nat) (l : List AIns), k + n = ops.size → mapO (cIns P R N ops) (ops.toList.drop k) = some l → ∀ (st st' : St) (a : Act) (w : World),
    InvE w0 S0 N st a w → runIns call l st = some st' → (∀ a' w', InvE w0 S0 N st' a' w' → Q .normal a' w') → wpOps P ops Q (List.range' k n) a w
  | 0, k, l, hk, hm, st, st', a, w, hI, h, hQ => by
    have : ops.toList.drop k = [] := List.drop_eq_nil_of_le (by simp; omega)
    rw [this] at hm
    simp only [mapO, Option.some.injEq] at hm
    subst hm
    simp only [runIns, Option.some.injEq] at h
    subst h
    simpa [wpOps] using hQ a w hI
  | n + 1, k, l, hk, hm, st, st', a, w, hI, h, hQ => by
    have hlt : k < ops.size := by omega
    have hd : ops.toList.drop k = ops[k] :: ops.toList.drop (k + 1) := by
      rw [List.drop_eq_getElem_cons (by simpa using hlt)]
      simp
    rw [hd] at hm
    simp only [mapO] at hm
    cases hi : cIns P R N ops ops[k] with
    | none => simp [hi] at hm
    | some i =>
      cases hm' : mapO (cIns P R N ops) (ops.toList.drop (k + 1)) with
      | none => simp [hi, hm'] at hm
      | some l' =>
        simp only [hi, hm', Option.some.injEq] at hm
        subst hm
        simp only [runIns] at h
        cases hs : insStep call i st with
        | none => simp [hs] at h
        | some st1 =>
          simp only [hs, Option.bind_some] at h
          simp only [List.range'_succ, wpOps, Array.getElem?_eq_getElem hlt]
          exact ins_sound hcall hi hI hs fun a' w' hI' => reg_sound hcall n (k + 1) l' (by omega) hm' st1 st' a' w' hI' h hQ

/-! ### an object told by another name -/
mutual
theorem RdA.ren {w : World} {S : Nat → Nat → Prop} {ρ ρ' : Nat → Nat × Nat} {s t : Nat} (hρ : ∀ n, n ≠ t → ρ' n = ρ n) (ht : ρ' t = ρ s) : ∀ (x : AV) (v : Value), x.has t = false → RdA w S ρ x v → RdA w S ρ' (x.ren s t) v
  | .d x, v, _, h => by simpa only [AV.ren, RdA] using h
  | .aref s' sz off n, v, hn, h => by
    simp only [AV.has, beq_eq_false_iff_ne] at hn
    simp only [AV.ren]
    cases hs : Nat.beq s' s with
    | true =>
      have := Nat.eq_of_beq_eq_true hs
      subst this
      simp only [cond_true, RdA, ht] at h ⊢
      exact h
    | false =>
      simp only [cond_false, RdA, hρ s' hn] at h ⊢
      exact h
  | .ptr s' sz i off, v, hn, h => by
    simp only [AV.has, beq_eq_false_iff_ne] at hn
    simp only [AV.ren]
    cases hs : Nat.beq s' s with
    | true =>
      have := Nat.eq_of_beq_eq_true hs
      subst this
      simp only [cond_true, RdA, ht] at h ⊢
      exact h
    | false =>
      simp only [cond_false, RdA, hρ s' hn] at h ⊢
      exact h
  | .w _ _ _, v, _, h => by simp only [AV.ren, RdA]
  | .undef, v, _, h => by simp only [AV.ren, RdA]
  | .func f cs, v, hn, h => by
    simp only [AV.has] at hn
    simp only [AV.ren, RdA] at h ⊢
    obtain ⟨vs, h1, h2⟩ := h
    exact ⟨vs, h1, RdAL.ren hρ ht cs vs hn h2⟩
  | .agg cs, v, hn, h => by
    simp only [AV.has] at hn
    simp only [AV.ren, RdA] at h ⊢
    obtain ⟨vs, h1, h2⟩ := h
    exact ⟨vs, h1, RdAL.ren hρ ht cs vs hn h2⟩
  | .tuple cs, v, hn, h => by
    simp only [AV.has] at hn
    simp only [AV.ren, RdA] at h ⊢
    obtain ⟨vs, h1, h2⟩ := h
    exact ⟨vs, h1, RdAL.ren hρ ht cs vs hn h2⟩
theorem RdAL.ren {w : World} {S : Nat → Nat → Prop} {ρ ρ' : Nat → Nat × Nat} {s t : Nat} (hρ : ∀ n, n ≠ t → ρ' n = ρ n) (ht : ρ' t = ρ s) : ∀ (cs : List AV) (vs : List Value), hasL t cs = false → RdAL w S ρ cs vs → RdAL w S ρ' (renL s t cs) vs
  | [], vs, _, h => by simpa only [renL, RdAL] using h
  | c :: cs, vs, hn, h => by
    simp only [hasL, Bool.or_eq_false_iff] at hn
    simp only [renL, RdAL] at h ⊢
    obtain ⟨u, us, h1, h2, h3⟩ := h
    exact ⟨u, us, h1, RdA.ren hρ ht c u hn.1 h2, RdAL.ren hρ ht cs us hn.2 h3⟩
end
theorem renL_map (s t : Nat) : ∀ l : List AV, renL s t l = l.map (AV.ren s t)
  | [] => rfl
  | x :: l => by simp only [renL, List.map_cons, renL_map s t l]
theorem ren_one (s t : Nat) (v : AV) : (v.ren s t).one = v.one := by cases v <;> rfl
theorem kill_no (t : Nat) (v : AV) : (v.kill t).has t = false := by
  unfold AV.kill
  split
  · rfl
  · simp_all
theorem ob_kill_no {t : Nat} {o o' : Ob} (h : o.kill t = some o') : o' = o ∧ o.has t = false := by
  unfold Ob.kill at h
  split at h <;> cases h
  exact ⟨rfl, by simp_all⟩
theorem SegOk.ren {B : Nat → Prop} {w : World} {S : Nat → Nat → Prop} {ρ ρ' : Nat → Nat × Nat} {s t n n' : Nat} (hρ : ∀ n, n ≠ t → ρ' n = ρ n) (ht : ρ' t = ρ s) (hn : ρ' n' = ρ n) {o : Ob} (ho : o.has t = false) (h : SegOk B w S ρ n o) : SegOk B w S ρ' n' (o.ren s t) := by
  cases o with
  | dat el sz es =>
    refine ⟨h.1, ?_⟩
    rw [hn]
    exact h.2
  | mix el sz es =>
    refine ⟨fun e he => ?_, ?_⟩
    · obtain ⟨e0, he0, rfl⟩ := List.mem_map.1 he
      have := h.1 e0 he0
      rw [renL_map]
      refine ⟨by simpa using this.1, ?_⟩
      rw [List.all_map, ← this.2]
      congr 1
      funext v
      exact ren_one s t v
    · rw [hn]
      have h2 := h.2
      simp only [List.length_map]
      refine h2.mono rfl h2.apart fun i j u hu e c he hc => ?_
      rw [List.getElem?_map] at he
      cases he0 : es[i]? with
      | none => simp [he0] at he
      | some e0 =>
        simp only [he0, Option.map_some, Option.some.injEq] at he
        subst he
        rw [renL_map, List.getElem?_map] at hc
        cases hc0 : e0[j]? with
        | none => simp [hc0] at hc
        | some c0 =>
          simp only [hc0, Option.map_some, Option.some.injEq] at hc
          subst hc
          simp only [Ob.has, List.any_eq_false, Bool.not_eq_true] at ho
          exact RdA.ren hρ ht c0 u (hasL_iff.1 (ho e0 (List.mem_of_getElem? he0)) c0 (List.mem_of_getElem? hc0)) (hu e0 c0 he0 hc0)
theorem Inv.ren (hI : Inv w0 S0 N ρ S st a w) {s t : Nat} (hst : s ≠ t) : Inv w0 S0 N (fun n => if n = t then ρ s else ρ n) S (st.ren s t) a w := by
  have hρ : ∀ n, n ≠ t → (fun n => if n = t then ρ s else ρ n) n = ρ n := fun n hn => by simp [hn]
  have ht : (fun n => if n = t then ρ s else ρ n) t = ρ s := by simp
  have hseg : ∀ n o, (st.ren s t).seg n = some o → n ≠ s ∧ ∃ m o1, st.seg m = some o1 ∧ o1.has t = false ∧ o = o1.ren s t ∧ (if n = t then ρ s else ρ n) = ρ m ∧ m = (if n = t then s else n) := by
    intro n o hn
    simp only [St.ren] at hn
    cases h1 : Nat.beq n s with
    | true => simp [h1] at hn
    | false =>
      have hns : n ≠ s := fun e => by subst e; simp at h1
      refine ⟨hns, ?_⟩
      simp only [h1, cond_false] at hn
      cases h2 : Nat.beq n t with
      | true =>
        have := Nat.eq_of_beq_eq_true h2
        subst this
        simp only [h2, cond_true, Option.map_eq_some_iff, Option.bind_eq_some_iff] at hn
        obtain ⟨o2, ⟨o1, hs1, hk⟩, rfl⟩ := hn
        obtain ⟨rfl, hh⟩ := ob_kill_no hk
        exact ⟨s, _, hs1, hh, rfl, if_pos rfl, (if_pos rfl).symm⟩
      | false =>
        have hnt : n ≠ t := fun e => by subst e; simp at h2
        simp only [h2, cond_false, Option.map_eq_some_iff, Option.bind_eq_some_iff] at hn
        obtain ⟨o2, ⟨o1, hs1, hk⟩, rfl⟩ := hn
        obtain ⟨rfl, hh⟩ := ob_kill_no hk
        exact ⟨n, _, hs1, hh, rfl, if_neg hnt, (if_neg hnt).symm⟩
  refine ⟨hI.size, hI.defers, fun n => ?_, fun n t' want v he h => ?_, fun n t' want v he h => ?_, fun n o hn => ?_, fun n m o o' hn hm he => ?_, hI.live, hI.up, hI.new, hI.below⟩
  · refine RdA.ren hρ ht _ _ (kill_no t _) ?_
    unfold AV.kill
    split
    · simp only [RdA]
    · exact hI.env n
  · simp only [St.ren, AV.kill] at he
    split at he
    · simp [AV.ren] at he
    · rename_i hh
      cases hx : st.env n <;> simp only [hx, AV.ren, reduceCtorEq] at he
      cases he
      refine RdA.ren hρ ht _ _ ?_ (hI.whens n _ _ _ hx h)
      simpa [hx, AV.has] using hh
  · simp only [St.ren, AV.kill] at he
    split at he
    · simp [AV.ren] at he
    · cases hx : st.env n <;> simp only [hx, AV.ren, reduceCtorEq] at he
      cases he
      exact hI.nots n _ _ _ hx h
  · obtain ⟨_, m, o1, h1, h2, rfl, h3, _⟩ := hseg n o hn
    exact SegOk.ren hρ ht h3 h2 (hI.seg m o1 h1)
  · obtain ⟨g1, m1, o1, h1, _, _, h3, h4⟩ := hseg n o hn
    obtain ⟨g2, m2, o2, k1, _, _, k3, k4⟩ := hseg m o' hm
    rw [h3, k3] at he
    have := hI.apart m1 m2 o1 o2 h1 k1 he
    rw [h4, k4] at this
    split at this <;> split at this <;> first | omega | (subst this; contradiction) | (exact absurd this (by omega))
theorem InvE.frees : ∀ (fs : List Nat) (st : St), InvE w0 S0 N st a w → InvE w0 S0 N (St.frees fs st) a w
  | [], st, h => h
  | t :: l, st, ⟨ρ, S, h⟩ => InvE.frees l _ ⟨_, S, h.ren (s := t) (t := t + 50000) (by omega)⟩
theorem ren_has {s t d : Nat} (hd : d ≠ t) : ∀ v : AV, v.has d = false ∨ d = s → (v.ren s t).has d = false := by
  have key : ∀ v : AV, (v.has d = false ∨ d = s → (v.ren s t).has d = false) := fun v => AV.rec (motive_1 := fun v => (v.has d = false ∨ d = s → (v.ren s t).has d = false)) (motive_2 := fun l => (hasL d l = false ∨ d = s → hasL d (renL s t l) = false))
    (fun x _ => rfl)
    (fun s' sz off n h => by
      simp only [AV.ren, AV.has, beq_eq_false_iff_ne] at h ⊢
      cases hs : Nat.beq s' s with
      | true => simpa using hd.symm
      | false =>
        have : s' ≠ s := fun e => by subst e; simp at hs
        simp only [cond_false]
        rcases h with h | rfl
        · exact h
        · exact this)
    (fun s' sz i off h => by
      simp only [AV.ren, AV.has, beq_eq_false_iff_ne] at h ⊢
      cases hs : Nat.beq s' s with
      | true => simpa using hd.symm
      | false =>
        have : s' ≠ s := fun e => by subst e; simp at hs
        simp only [cond_false]
        rcases h with h | rfl
        · exact h
        · exact this)
    (fun f cs ih h => ih h) (fun cs ih h => ih h) (fun cs ih h => ih h) (fun q want v ih h => ih h) (fun _ => rfl)
    (fun _ => rfl)
    (fun v l ih1 ih2 h => by
      simp only [hasL, renL, Bool.or_eq_false_iff] at h ⊢
      rcases h with h | h
      · exact ⟨ih1 (.inl h.1), ih2 (.inl h.2)⟩
      · exact ⟨ih1 (.inr h), ih2 (.inr h)⟩) v
  exact key
theorem ob_ren_has {s t d : Nat} (hd : d ≠ t) (o : Ob) (h : o.has d = false ∨ d = s) : (o.ren s t).has d = false := by
  cases o with
  | dat => rfl
  | mix el sz es =>
    simp only [Ob.ren, Ob.has, List.any_eq_false, Bool.not_eq_true] at h ⊢
    intro e he
    obtain ⟨e0, he0, rfl⟩ := List.mem_map.1 he
    rw [renL_map]
    refine hasL_iff.2 fun c hc => ?_
    obtain ⟨c0, hc0, rfl⟩ := List.mem_map.1 hc
    refine ren_has hd c0 (h.imp (fun h => ?_) id)
    exact hasL_iff.1 (h e0 he0) c0 hc0
theorem ren_no {s t d : Nat} (hd : d ≠ t) (st : St) (h : st.No d ∨ d = s) : (st.ren s t).No d := by
  refine ⟨fun n => ren_has hd _ (h.imp (fun h => has_kill2 (h.env n)) id), fun n o hn => ?_, ?_⟩
  · have fin : ∀ m, ((st.seg m).bind (Ob.kill t)).map (Ob.ren s t) = some o → o.has d = false := by
      intro m hm
      simp only [Option.map_eq_some_iff, Option.bind_eq_some_iff] at hm
      obtain ⟨o2, ⟨o1, hs1, hk⟩, rfl⟩ := hm
      obtain ⟨rfl, _⟩ := ob_kill_no hk
      exact ob_ren_has hd _ (h.imp (fun h => h.seg m _ hs1) id)
    simp only [St.ren] at hn
    cases h1 : Nat.beq n s with
    | true => simp [h1] at hn
    | false =>
      simp only [h1, cond_false] at hn
      cases h2 : Nat.beq n t with
      | true => simp only [h2, cond_true] at hn; exact fin _ hn
      | false => simp only [h2, cond_false] at hn; exact fin _ hn
  · simp only [St.ren]
    cases h1 : Nat.beq d s with
    | true => rfl
    | false =>
      have hds : d ≠ s := fun e => by subst e; simp at h1
      have h2 : Nat.beq d t = false := by
        cases hb : Nat.beq d t with
        | true => exact absurd (Nat.eq_of_beq_eq_true hb) hd
        | false => rfl
      simp only [h2, cond_false]
      rcases h with h | h
      · rw [h.free]; rfl
      · exact absurd h hds
theorem frees_no {d : Nat} (hd : d < 50000) : ∀ (fs : List Nat) (st : St), st.No d ∨ d ∈ fs → (St.frees fs st).No d
  | [], st, h => by
    rcases h with h | h
    · exact h
    · cases h
  | t :: l, st, h => by
    refine frees_no hd l _ ?_
    have hne : d ≠ t + 50000 := by omega
    rcases h with h | h
    · exact .inl (ren_no hne st (.inl h))
    · rcases List.mem_cons.1 h with h | h
      · exact .inl (ren_no hne st (.inr h))
      · exact .inr h
theorem fsites_mem : ∀ {l : List AIns} {i : AIns} {d : Nat}, i ∈ l → i.f = true → i.dst = some d → d ∈ fsites l
  | [], i, d, h, _, _ => by cases h
  | x :: l, i, d, h, hf, hd => by
    simp only [fsites]
    rcases List.mem_cons.1 h with rfl | h
    · simp [hf, hd]
    · have := fsites_mem h hf hd
      cases x.f with
      | false => simpa using this
      | true =>
        simp only [cond_true]
        split
        · exact List.mem_cons.2 (.inr this)
        · exact this

/-! ### a region whose order is open -/
def todo (n : Nat) (listed : Array Bool) : List Nat := (List.range n).filter fun i => !listed.getD i true
theorem todo_sorted (n : Nat) (listed : Array Bool) : (todo n listed).Pairwise (· < ·) := List.Pairwise.filter _ List.pairwise_lt_range
theorem mem_todo {n : Nat} {listed : Array Bool} {i : Nat} : i ∈ todo n listed ↔ i < n ∧ listed.getD i true = false := by
  simp [todo]
theorem todo_set {n : Nat} {listed : Array Bool} (hl : listed.size = n) {i : Nat} {pre post : List Nat} (h : todo n listed = pre ++ i :: post) : todo n (listed.setIfInBounds i true) = pre ++ post := by
  have hs := todo_sorted n listed
  rw [h] at hs
  have hi : i < listed.size := by
    have : i ∈ todo n listed := by rw [h]; simp
    have := (mem_todo.1 this).1
    omega
  have h1 : todo n (listed.setIfInBounds i true) = (todo n listed).filter fun k => k != i := by
    simp only [todo, List.filter_filter]
    refine List.filter_congr fun k hk => ?_
    by_cases hki : k = i
    · subst hki
      simp [Array.getD_eq_getD_getElem?, hi]
    · have : (listed.setIfInBounds i true)[k]? = listed[k]? := Array.getElem?_setIfInBounds_ne (Ne.symm hki)
      simp [Array.getD_eq_getD_getElem?, this, hki]
  rw [h1, h, List.filter_append, List.filter_cons]
  rw [List.pairwise_append] at hs
  obtain ⟨_, h2, h3⟩ := hs
  rw [List.pairwise_cons] at h2
  have e1 : pre.filter (fun k => k != i) = pre := List.filter_eq_self.2 fun k hk => by
    have := h3 k hk i (by simp)
    simp; omega
  have e2 : post.filter (fun k => k != i) = post := List.filter_eq_self.2 fun k hk => by
    have := h2.1 k hk
    simp; omega
  simp [e1, e2]

theorem ready_mem {ops : Array Oper} {listed : Array Bool} {i : Nat} : i ∈ Region.ready .any ops listed ↔ ∃ o, ops[i]? = some o ∧ listed.getD i true = false ∧ ∀ k ∈ preds o, listed.getD k false = true := by
  simp only [Region.ready, List.mem_filter, List.mem_range, Bool.and_eq_true, Bool.not_eq_true']
  constructor
  · rintro ⟨h1, h2, h3⟩
    refine ⟨ops[i], Array.getElem?_eq_getElem h1, h2, fun k hk => ?_⟩
    rw [Array.getElem?_eq_getElem h1] at h3
    simp only [Option.map_some, Option.getD_some, Array.all_eq_true] at h3
    simp only [preds, List.mem_map, List.mem_filter] at hk
    obtain ⟨e, ⟨he, hb⟩, rfl⟩ := hk
    obtain ⟨p, hp, rfl⟩ := Array.mem_iff_getElem.1 (Array.mem_toList_iff.1 he)
    have := h3 p hp
    simpa [hb] using this
  · rintro ⟨o, ho, h2, h3⟩
    refine ⟨(Array.getElem?_eq_some_iff.1 ho).1, h2, ?_⟩
    rw [ho]
    simp only [Option.map_some, Option.getD_some, Array.all_eq_true]
    intro p hp
    cases hb : Region.binds .any o.after[p]
    · simp
    · simp only [Bool.not_true, Bool.false_or]
      exact h3 _ (List.mem_map.2 ⟨o.after[p], List.mem_filter.2 ⟨by simp, hb⟩, rfl⟩)

theorem pickL_range : ∀ (l : List AIns), pickL l (List.range l.length) = l
  | [] => rfl
  | x :: l => by
    have ih := pickL_range l
    unfold pickL at ih ⊢
    rw [List.length_cons, List.range_succ_eq_map, List.filterMap_cons]
    simp only [List.getElem?_cons_zero]
    rw [List.filterMap_map]
    congr 1
theorem dreg_sound (hcall : CallOk P call) {ops : Array Oper} {l l0 : List AIns} {dyn : List (Nat × Nat)} (hm : mapO (cIns P R N ops) ops.toList = some l0) (hlen0 : l.length = l0.length) (hl0 : ∀ (i : Nat) (y : AIns), l[i]? = some y → ∃ x : AIns, l0[i]? = some x ∧ ((y = x ∧ x.g ≠ none) ∨ (x.g = none ∧ ∃ b u, y = { x with tot := b, up := u }))) (hfo : fOk l = true)
    (hord : orderOk l (ops.toList.map preds) (clo (ops.toList.map preds) []) dyn = true)
    (hdyn : dyn.all (dynOk st') = true) {Q : Exit → Act → World → Prop} (hQ : ∀ a' w', InvE w0 S0 N st' a' w' → Q .normal a' w') :
    ∀ (fuel : Nat) (listed : Array Bool) (st : St) (a : Act) (w : World), listed.size = ops.size → (∀ k o, ops[k]? = some o → listed.getD k false = true → ∀ p ∈ preds o, listed.getD p false = true) →
      (todo ops.size listed).length = fuel → Frees l (todo ops.size listed) st → InvE w0 S0 N st a w → runD call (pickL l (todo ops.size listed)) st = some st' → wpAny P .any ops Q fuel listed a w := by
  obtain ⟨hlen, hat⟩ := mapO_at hm
  have hlen' : l.length = ops.size := by rw [hlen0, hlen]; simp
  have hord' : ∀ i < l.length, (∀ k ∈ ((ops.toList.map preds).getD i []), k < i) ∧ ∀ j < i, (j ∈ (ops.toList.map preds).getD i [] ∨ ((clo (ops.toList.map preds) []).getD i 0).testBit j = true) ∨ commAt l j i = true ∨ ∃ ps, dynAt l j i ((ops.toList.map preds).getD i []) = some ps ∧ ∀ p ∈ ps, p ∈ dyn := by
    intro i hi
    have h1 := List.all_eq_true.1 hord i (List.mem_range.2 hi)
    simp only [Bool.and_eq_true] at h1
    refine ⟨fun k hk => by simpa using List.all_eq_true.1 h1.1 k hk, fun j hj => ?_⟩
    have h2 := List.all_eq_true.1 h1.2 j (List.mem_range.2 hj)
    simp only [Bool.or_eq_true, List.contains_eq_mem, decide_eq_true_eq] at h2
    rcases h2 with ((h2 | h2) | h2) | h2
    · exact .inl (.inl h2)
    · exact .inr (.inl h2)
    · exact .inl (.inr h2)
    · cases hp : dynAt l j i ((ops.toList.map preds).getD i []) with
      | none => rw [hp] at h2; simp at h2
      | some p => rw [hp] at h2; exact .inr (.inr ⟨p, rfl, fun q hq => by simpa using List.all_eq_true.1 h2 q hq⟩)
  have hpre : ∀ i o, ops[i]? = some o → (ops.toList.map preds).getD i [] = preds o := by
    intro i o ho
    rw [List.getD_eq_getElem?_getD, List.getElem?_map, Array.getElem?_toList, ho]
    rfl
  intro fuel
  induction fuel with
  | zero =>
    intro listed st a w hl hcl hf hF hI h
    have hnil := List.eq_nil_of_length_eq_zero hf
    rw [hnil] at h
    simp only [pickL, List.filterMap_nil, runD, Option.some.injEq] at h
    subst h
    refine ⟨?_, hQ a w hI⟩
    rw [List.eq_nil_iff_forall_not_mem]
    intro i hi
    obtain ⟨o, ho, hli, _⟩ := ready_mem.1 hi
    have : i ∈ todo ops.size listed := mem_todo.2 ⟨(Array.getElem?_eq_some_iff.1 ho).1, hli⟩
    rw [hnil] at this
    cases this
  | succ fuel ih =>
    intro listed st a w hl hcl hf hF hI h
    refine ⟨fun hnil => ?_, fun i hi => ?_⟩
    · exfalso
      cases ht : todo ops.size listed with
      | nil => rw [ht] at hf; simp at hf
      | cons k0 rest =>
        have hk0 : k0 ∈ todo ops.size listed := by rw [ht]; simp
        obtain ⟨g1, g2⟩ := mem_todo.1 hk0
        have hs := todo_sorted ops.size listed
        rw [ht, List.pairwise_cons] at hs
        have : k0 ∈ Region.ready .any ops listed := by
          refine ready_mem.2 ⟨ops[k0], Array.getElem?_eq_getElem g1, g2, fun k hk => ?_⟩
          have hlt := (hord' k0 (by omega)).1 k (by rw [hpre k0 _ (Array.getElem?_eq_getElem g1)]; exact hk)
          cases hlk : listed.getD k false with
          | true => rfl
          | false =>
            have hkt : k ∈ todo ops.size listed := mem_todo.2 ⟨by omega, by
              have hks : k < listed.size := by omega
              simp only [Array.getD_eq_getD_getElem?, Array.getElem?_eq_getElem hks, Option.getD_some] at hlk ⊢
              exact hlk⟩
            rw [ht] at hkt
            rcases List.mem_cons.1 hkt with rfl | hkt
            · omega
            · have := hs.1 k hkt
              omega
        rw [hnil] at this
        cases this
    · obtain ⟨o, ho, hli, hpr⟩ := ready_mem.1 hi
      have hio : i < ops.size := (Array.getElem?_eq_some_iff.1 ho).1
      have hit : i ∈ todo ops.size listed := mem_todo.2 ⟨hio, hli⟩
      obtain ⟨pre, post, ht⟩ := List.append_of_mem hit
      have hs := todo_sorted ops.size listed
      rw [ht] at hs h
      have hun0 : ∀ k ∈ pre ++ i :: post, listed.getD k false ≠ true := by
        intro k hk h2
        rw [← ht] at hk
        have h1 := (mem_todo.1 hk)
        have hks : k < listed.size := by omega
        simp only [Array.getD_eq_getD_getElem?, Array.getElem?_eq_getElem hks, Option.getD_some] at h1 h2
        rw [h2] at h1
        cases h1.2
      have hun : ∀ k ∈ pre ++ i :: post, k ∉ preds o := fun k hk hkp => hun0 k hk (hpr k hkp)
      have hFp := hF
      rw [ht] at hFp
      have hb := bubble (call := call) (l := l) hfo (pr := preds o) (s' := st') pre st hFp hs hun (fun j hj => by
        have hji : j < i := (List.pairwise_append.1 hs).2.2 j hj i (by simp)
        have h1 := (hord' i (by omega)).2 j hji
        rw [hpre i o ho] at h1
        rcases h1 with (h1 | h1) | h1 | ⟨p, h1, h2⟩
        · exact absurd h1 (hun j (by simp [hj]))
        · exfalso
          have hR := clo_of (all := ops.toList.map preds) (R := fun i j => (∀ p ∈ (ops.toList.map preds).getD i [], listed.getD p false = true) → listed.getD j false = true)
            (fun i k hk hp => hp k hk)
            (fun i k j hk hkj hp => hkj fun p hpk => by
              have hlk := hp k hk
              cases hok : ops[k]? with
              | none =>
                rw [List.getD_eq_getElem?_getD, List.getElem?_map, Array.getElem?_toList, hok] at hpk
                simp at hpk
              | some ok =>
                rw [hpre k ok hok] at hpk
                exact hcl k ok hok hlk p hpk)
            (ops.toList.map preds) [] [] rfl rfl (fun i j h => by simp at h) i j h1
          exact hun0 j (by simp [hj]) (hR fun p hp => hpr p (by rwa [hpre i o ho] at hp))
        · exact .inl h1
        · exact .inr ⟨p, h1, fun q hq => List.all_eq_true.1 hdyn q (h2 q hq)⟩) h
      obtain ⟨x0, hx0, hcx⟩ := hat i o (by rw [Array.getElem?_toList]; exact ho)
      have hil : i < l.length := by omega
      obtain ⟨x1, hx1, hy0⟩ := hl0 i l[i] (List.getElem?_eq_getElem hil)
      rw [hx0] at hx1
      cases hx1
      obtain ⟨y, hy, hye⟩ : ∃ y, l[i]? = some y ∧ ((y = x0 ∧ x0.g ≠ none) ∨ (x0.g = none ∧ ∃ b u, y = { x0 with tot := b, up := u })) := ⟨l[i], List.getElem?_eq_getElem hil, hy0⟩
      rw [pickL_cons hy] at hb
      simp only [runD] at hb
      cases h1 : dStep call y st with
      | none => simp [h1] at hb
      | some st1 =>
        simp only [h1, Option.bind_some] at hb
        simp only [wpOp, ho]
        refine dins_sound hcall hcx hye hI h1 fun a' w' hI' => ?_
        have htd := todo_set hl ht
        have hmono : ∀ k, listed.getD k false = true → (listed.setIfInBounds i true).getD k false = true := by
          intro k hk
          by_cases hki : k = i
          · subst hki
            have : k < listed.size := by omega
            simp [Array.getD_eq_getD_getElem?, this]
          · have he : (listed.setIfInBounds i true)[k]? = listed[k]? := Array.getElem?_setIfInBounds_ne (Ne.symm hki)
            simpa only [Array.getD_eq_getD_getElem?, he] using hk
        refine ih (listed.setIfInBounds i true) st1 a' w' (by simpa using hl) (fun k ok hok hk p hp => hmono p ?_) ?_ ?_ hI' (by rw [htd]; exact hb)
        · by_cases hki : k = i
          · subst hki
            rw [ho] at hok
            cases hok
            exact hpr p hp
          · have he : (listed.setIfInBounds i true)[k]? = listed[k]? := Array.getElem?_setIfInBounds_ne (Ne.symm hki)
            refine hcl k ok hok ?_ p hp
            simpa only [Array.getD_eq_getD_getElem?, he] using hk
        · rw [htd]
          rw [ht] at hf
          simp at hf ⊢
          omega
        · rw [htd]
          have hni : i ∉ pre ++ post := by
            intro hm
            have h2 := List.pairwise_append.1 hs
            rcases List.mem_append.1 hm with hm | hm
            · exact Nat.lt_irrefl _ (h2.2.2 i hm i (by simp))
            · exact Nat.lt_irrefl _ ((List.pairwise_cons.1 h2.2.1).1 i hm)
          exact Frees.step hfo (fun k hk => hFp k (by
            rcases List.mem_append.1 hk with hk | hk
            · exact List.mem_append.2 (.inl hk)
            · exact List.mem_append.2 (.inr (List.mem_cons.2 (.inr hk))))) hy hni h1

def Ex.to : Ex → Exit
  | .nrm => .normal
  | .ex id => .exit id
  | .ret => .ret

theorem erase_bad {ac : AC} (h : ac.erase = .bad) : ac = .bad := by cases ac <;> simp_all [AC.erase]
theorem erase_skip {ac : AC} (h : ac.erase = .skip) : ac = .skip := by cases ac <;> simp_all [AC.erase]
theorem erase_reg {ac : AC} {l : List AIns} (h : ac.erase = .reg l) : ac = .reg l := by cases ac <;> simp_all [AC.erase]
theorem erase_dreg {ac : AC} {l : List AIns} {d : List (Nat × Nat)} (h : ac.erase = .dreg l d) : ac = .dreg l d := by cases ac <;> simp_all [AC.erase]
theorem erase_seq {ac a b : AC} (h : ac.erase = .seq a b) : ∃ a' b', ac = .seq a' b' ∧ a'.erase = a ∧ b'.erase = b := by
  cases ac <;> simp only [AC.erase, reduceCtorEq] at h
  injection h
  subst_vars
  exact ⟨_, _, rfl, rfl, rfl⟩
theorem erase_cond {ac a b : AC} {c : AX} (h : ac.erase = .cond c a b) : ∃ a' b', ac = .cond c a' b' ∧ a'.erase = a ∧ b'.erase = b := by
  cases ac <;> simp only [AC.erase, reduceCtorEq] at h
  injection h
  subst_vars
  exact ⟨_, _, rfl, rfl, rfl⟩
theorem erase_block {ac b : AC} {id : Nat} (h : ac.erase = .block id b) : ∃ b', ac = .block id b' ∧ b'.erase = b := by cases ac <;> simp_all [AC.erase]
theorem erase_loop {ac b : AC} (h : ac.erase = .loop none b) : ∃ o b', ac = .loop o b' ∧ b'.erase = b := by
  cases ac <;> simp only [AC.erase, reduceCtorEq] at h
  injection h
  subst_vars
  exact ⟨_, _, rfl, rfl⟩
theorem erase_exit {ac : AC} {id : Nat} (h : ac.erase = .exit none id) : ∃ o, ac = .exit o id := by cases ac <;> simp_all [AC.erase]
theorem erase_ret {ac : AC} (h : ac.erase = .ret none) : ∃ o, ac = .ret o := by cases ac <;> simp_all [AC.erase]

theorem Inv.keep {ρ : Nat → Nat × Nat} {S : Nat → Nat → Prop} {st : St} {a : Act} {w : World} (hI : Inv w0 S0 N ρ S st a w) (h : Hint) : Inv w0 S0 N ρ S (st.keep h) a w := by
  have hseg : ∀ s o, (st.keep h).seg s = some o → st.seg s = some o := fun s o ho => by
    rcases st.keep_seg h s with h1 | h1
    · rwa [h1] at ho
    · rw [h1] at ho; cases ho
  have henv : ∀ n t want v, (st.keep h).env n = .w t want v → st.env n = .w t want v := fun n t want v hv => by
    rcases st.keep_env h n with h1 | h1
    · rwa [h1] at hv
    · rw [h1] at hv; cases hv
  refine ⟨hI.size, hI.defers, fun t => ?_, fun n t want v he => hI.whens n t want v (henv n t want v he), fun n t want v he => hI.nots n t want v (henv n t want v he),
    fun s o ho => hI.seg s o (hseg s o ho), fun s s' o o' h1 h2 => hI.apart s s' o o' (hseg s o h1) (hseg s' o' h2), hI.live, hI.up, hI.new, hI.below⟩
  rcases st.keep_env h t with h1 | h1
  · rw [h1]; exact hI.env t
  · rw [h1]; simp only [RdA]
theorem InvE.keep {st : St} {a : Act} {w : World} (hI : InvE w0 S0 N st a w) (h : Hint) : InvE w0 S0 N (st.keep h) a w := by
  obtain ⟨ρ, S, hI⟩ := hI
  exact ⟨ρ, S, hI.keep h⟩
theorem InvE.away : ∀ (fs : List Nat) (st : St), InvE w0 S0 N st a w → InvE w0 S0 N (St.away fs st) a w
  | [], st, h => h
  | t :: l, st, ⟨ρ, S, h⟩ => by
    refine InvE.away l _ ?_
    split
    · exact ⟨ρ, S, h⟩
    · exact ⟨_, S, h.ren (freeAt_ne st t 7 0)⟩
theorem InvE.keepO {st : St} {a : Act} {w : World} (hI : InvE w0 S0 N st a w) (h : Option Hint) : InvE w0 S0 N (st.keepO h) a w := by
  cases h with
  | none => exact hI
  | some h => exact hI.keep h

theorem code_sound (hcall : CallOk P call) {run : Run} (hrun : run.ok) {L : Nat} : ∀ (c : Code) (ac : AC), cCode P R N c = some ac.erase → ∀ (st st' : St) (e : Ex), exec call run L ac st = some (e, st') → ∀ (a : Act) (w : World), InvE w0 S0 N st a w →
    ∀ (Q : Exit → Act → World → Prop), (∀ a' w', InvE w0 S0 N st' a' w' → Q e.to a' w') → c.wp P Q a w
  | .skip, ac, hc, st, st', e, h, a, w, hI, Q, hQ => by
    simp only [cCode, Option.some.injEq] at hc
    cases erase_skip hc.symm
    simp only [exec, Option.some.injEq, Prod.mk.injEq] at h
    obtain ⟨rfl, rfl⟩ := h
    exact wp_skip (hQ a w hI)
  | .region id ops false, ac, hc, st, st', e, h, a, w, hI, Q, hQ => by
    simp only [cCode] at hc
    split at hc
    case h_2 =>
      cases erase_bad (Option.some.inj hc).symm
      simp [exec] at h
    rename_i l hm
    cases erase_reg (Option.some.inj hc).symm
    simp only [exec, Option.map_eq_some_iff, Prod.mk.injEq] at h
    obtain ⟨st1, h1, rfl, rfl⟩ := h
    refine wp_region ?_
    rw [List.range_eq_range']
    exact reg_sound hcall ops.size 0 l (by omega) (by simpa using hm) st st1 a w hI h1 hQ
  | .region id ops true, ac, hc, st, st', e, h, a, w, hI, Q, hQ => by
    simp only [cCode] at hc
    split at hc
    · rename_i l0 hm
      split at hc
      · rename_i hcc
        generalize hle : eMode l0 (clo (ops.toList.map preds) []) l0.length 0 l0 = l at hc hcc
        simp only [Bool.and_eq_true] at hcc
        simp only [Option.some.injEq] at hc
        cases erase_dreg hc.symm
        simp only [exec] at h
        split at h
        · rename_i st1 hrunD
          split at h
          · rename_i hdyn
            simp only [Option.some.injEq, Prod.mk.injEq] at h
            obtain ⟨rfl, rfl⟩ := h
            obtain ⟨ρ, S, hI1⟩ := hI
            have hlen0 : l.length = l0.length := by rw [← hle, eMode_length]
            have hlen : l.length = ops.size := by rw [hlen0, (mapO_at hm).1]; simp
            have htodo : todo ops.size (Array.replicate ops.size false) = List.range ops.size := List.filter_eq_self.2 fun k hk => by
              simp [Array.getD_eq_getD_getElem?, List.mem_range.1 hk]
            refine wp_region_any hcc.1 (dreg_sound hcall hm hlen0 (fun i y hy => eMode_at l0 0 i y (by rw [hle]; exact hy)) hcc.2.2 hcc.2.1 hdyn hQ ops.size _ (St.frees (fsites l) st) a _ (by simp) (fun k ok hok hk => by
              have : k < ops.size := (Array.getElem?_eq_some_iff.1 hok).1
              simp [Array.getD_eq_getD_getElem?, this] at hk) (by rw [htodo]; simp) (fun k _ y hy hf d hd => frees_no (by
                obtain ⟨d', hd', hlt, _⟩ := fOk_spec hcc.2.2 hy hf
                rw [hd] at hd'
                cases hd'
                exact hlt) _ _ (.inr (fsites_mem (List.mem_of_getElem? hy) hf hd))) (InvE.frees _ _ ⟨ρ, S, hI1.drew _⟩) ?_)
            rw [htodo, ← hlen]
            rw [pickL_range]
            exact hrunD
          · cases h
        · cases h
      · cases erase_bad (Option.some.inj hc).symm
        simp [exec] at h
    · cases erase_bad (Option.some.inj hc).symm
      simp [exec] at h
  | .seq x y, ac, hc, st, st', e, h, a, w, hI, Q, hQ => by
    simp only [cCode] at hc
    cases hx : cCode P R N x with
    | none => simp [hx] at hc
    | some ax =>
      cases hy : cCode P R N y with
      | none => simp [hx, hy] at hc
      | some ay =>
        simp only [hx, hy, Option.some.injEq] at hc
        obtain ⟨ax, ay, rfl, rfl, rfl⟩ := erase_seq hc.symm
        simp only [exec] at h
        refine wp_seq ?_
        cases he : exec call run L ax st with
        | none => simp [he] at h
        | some r =>
          obtain ⟨e1, st1⟩ := r
          refine code_sound hcall hrun x ax hx st st1 e1 he a w hI _ fun a' w' hI' => ?_
          cases e1 with
          | nrm =>
            simp only [he] at h
            exact code_sound hcall hrun y ay hy st1 st' e h a' w' hI' Q hQ
          | ex id =>
            simp only [he, Option.some.injEq, Prod.mk.injEq] at h
            obtain ⟨rfl, rfl⟩ := h
            exact hQ a' w' hI'
          | ret =>
            simp only [he, Option.some.injEq, Prod.mk.injEq] at h
            obtain ⟨rfl, rfl⟩ := h
            exact hQ a' w' hI'
  | .cond c x y, ac, hc, st, st', e, h, a, w, hI, Q, hQ => by
    simp only [cCode] at hc
    split at hc
    · rename_i axc ax ay h1 h2 h3
      simp only [Option.some.injEq] at hc
      obtain ⟨ax, ay, rfl, rfl, rfl⟩ := erase_cond hc.symm
      simp only [exec] at h
      split at h
      · rename_i t ht
        obtain ⟨ρ, S, hI1⟩ := hI
        refine wp_cond (bool_of (ax_sound hI1 h1) ht) ?_
        cases t with
        | true =>
          simp only [if_true] at h ⊢
          exact code_sound hcall hrun x ax h2 st st' e h a w ⟨ρ, S, hI1⟩ Q hQ
        | false =>
          simp only [Bool.false_eq_true, if_false] at h ⊢
          exact code_sound hcall hrun y ay h3 st st' e h a w ⟨ρ, S, hI1⟩ Q hQ
      · cases h
    · cases erase_bad (Option.some.inj hc).symm
      simp [exec] at h
  | .block id b, ac, hc, st, st', e, h, a, w, hI, Q, hQ => by
    simp only [cCode, Option.map_eq_some_iff] at hc
    obtain ⟨ab, hb, hc⟩ := hc
    obtain ⟨ab, rfl, rfl⟩ := erase_block hc.symm
    simp only [exec] at h
    refine wp_block ?_
    cases he : exec call run L ab st with
    | none => simp [he] at h
    | some r =>
      obtain ⟨e1, st1⟩ := r
      refine code_sound hcall hrun b ab hb st st1 e1 he a w hI _ fun a' w' hI' => ?_
      cases e1 with
      | nrm =>
        simp only [he, Option.some.injEq, Prod.mk.injEq] at h
        obtain ⟨rfl, rfl⟩ := h
        exact hQ a' w' hI'
      | ex id' =>
        simp only [he] at h
        simp only [Ex.to, Exit.inBlock]
        split at h
        · rename_i hid
          simp only [Option.some.injEq, Prod.mk.injEq] at h
          obtain ⟨rfl, rfl⟩ := h
          rw [if_pos hid]
          exact hQ a' w' hI'
        · rename_i hid
          simp only [Option.some.injEq, Prod.mk.injEq] at h
          obtain ⟨rfl, rfl⟩ := h
          rw [if_neg hid]
          exact hQ a' w' hI'
      | ret =>
        simp only [he, Option.some.injEq, Prod.mk.injEq] at h
        obtain ⟨rfl, rfl⟩ := h
        exact hQ a' w' hI'
  | .loop b, ac, hc, st, st', e, h, a, w, hI, Q, hQ => by
    simp only [cCode, Option.map_eq_some_iff] at hc
    obtain ⟨ab, hb, hc⟩ := hc
    obtain ⟨o, ab, rfl, rfl⟩ := erase_loop hc.symm
    have key : ∀ (f : St → Option (Ex × St)), (∀ (st st1 : St) (e1 : Ex), f st = some (e1, st1) → ∀ (a : Act) (w : World), InvE w0 S0 N st a w →
          ∀ (Q : Exit → Act → World → Prop), (∀ a' w', InvE w0 S0 N st1 a' w' → Q e1.to a' w') → b.wp P Q a w) →
        ∀ (n : Nat) (st : St) (a : Act) (w : World), iter f n st = some (e, st') → InvE w0 S0 N st a w → Code.rounds P b Q n a w := by
      intro f hf n
      induction n with
      | zero => intro st a w h; simp [iter] at h
      | succ n ih =>
        intro st a w h hI
        rw [rounds_succ]
        simp only [iter] at h
        cases he : f st with
        | none => simp [he] at h
        | some r =>
          obtain ⟨e1, st1⟩ := r
          refine hf st st1 e1 he a w hI _ fun a' w' hI' => ?_
          cases e1 with
          | nrm =>
            simp only [he] at h
            exact ih st1 a' w' h hI'
          | ex id =>
            simp only [he, Option.some.injEq, Prod.mk.injEq] at h
            obtain ⟨rfl, rfl⟩ := h
            exact hQ a' w' hI'
          | ret =>
            simp only [he, Option.some.injEq, Prod.mk.injEq] at h
            obtain ⟨rfl, rfl⟩ := h
            exact hQ a' w' hI'
    cases o with
    | none =>
      simp only [exec] at h
      exact wp_loop_rounds L (key _ (fun st st1 e1 he a w hI Q hQ => code_sound hcall hrun b ab hb st st1 e1 he a w hI Q hQ) L st a w h hI)
    | some hh =>
      simp only [exec] at h
      obtain ⟨n, hn⟩ := hrun _ _ _ _ _ h
      refine wp_loop_rounds n (key _ (fun st st1 e1 he a w hI Q hQ => ?_) n _ a w hn ((InvE.away hh.fr _ hI).keep hh))
      simp only [bodyOf] at he
      split at he
      · rename_i st2 he2
        simp only [Option.some.injEq, Prod.mk.injEq] at he
        obtain ⟨rfl, rfl⟩ := he
        exact code_sound hcall hrun b ab hb st st2 _ he2 a w hI Q fun a' w' hI' => hQ a' w' ((InvE.away hh.fr _ hI').keep hh)
      · exact code_sound hcall hrun b ab hb st st1 e1 he a w hI Q hQ
  | .exit id, ac, hc, st, st', e, h, a, w, hI, Q, hQ => by
    simp only [cCode, Option.some.injEq] at hc
    obtain ⟨o, rfl⟩ := erase_exit hc.symm
    simp only [exec, Option.some.injEq, Prod.mk.injEq] at h
    obtain ⟨rfl, rfl⟩ := h
    exact wp_exit (hQ a w (hI.keepO o))
  | .ret, ac, hc, st, st', e, h, a, w, hI, Q, hQ => by
    simp only [cCode, Option.some.injEq] at hc
    obtain ⟨o, rfl⟩ := erase_ret hc.symm
    simp only [exec, Option.some.injEq, Prod.mk.injEq] at h
    obtain ⟨rfl, rfl⟩ := h
    exact wp_ret (hQ a w (hI.keepO o))
  | .rangeFunc _ _ _ _, ac, hc, _, _, _, h, _, _, _, _, _ => by
    simp only [cCode] at hc
    cases erase_bad (Option.some.inj hc).symm
    simp [exec] at h
  | .scope _, ac, hc, _, _, _, h, _, _, _, _, _ => by
    simp only [cCode] at hc
    cases erase_bad (Option.some.inj hc).symm
    simp [exec] at h
  | .label _, ac, hc, _, _, _, h, _, _, _, _, _ => by
    simp only [cCode] at hc
    cases erase_bad (Option.some.inj hc).symm
    simp [exec] at h
  | .goto _, ac, hc, _, _, _, h, _, _, _, _, _ => by
    simp only [cCode] at hc
    cases erase_bad (Option.some.inj hc).symm
    simp [exec] at h
  | .refuse _, ac, hc, _, _, _, h, _, _, _, _, _ => by
    simp only [cCode] at hc
    cases erase_bad (Option.some.inj hc).symm
    simp [exec] at h

/-! ### a function -/
theorem aLoad_ptr {g : Bool} {sz : Nat} {x av : AV} {v : Value} (hx : RdA w S ρ x v) (h : aLoad st g sz x = some av) : ∃ ad, v = .pointer (some ad) := by
  unfold aLoad at h
  split at h
  · simp only [RdA, RdD] at hx
    obtain ⟨b, o, rfl, _⟩ := hx
    exact ⟨_, rfl⟩
  · simp only [RdA] at hx
    exact ⟨_, hx⟩
  · cases h

def resOf (tmps : Array Value) : ResultVar → Sem Value
  | .tmp t => pure (tmps.getD t undef)
  | .cell ad t => do loadVar t (← asAddr (tmps.getD ad undef))

theorem res_sound (hI : Inv w0 S0 N ρ S st a w) : ∀ (l : List ResultVar) (rvs : List RV) (avs : List AV), mapO (cRes P) l = some rvs → mapO (RV.get st) rvs = some avs →
    ∃ us : List Value, (l.mapM (resOf a.tmps)).run P w = .ok us w ∧ RdAL w S ρ avs us
  | [], rvs, avs, h1, h2 => by
    simp only [mapO, Option.some.injEq] at h1
    subst h1
    simp only [mapO, Option.some.injEq] at h2
    subst h2
    exact ⟨[], by simp, by simp only [RdAL]⟩
  | r :: l, rvs, avs, h1, h2 => by
    simp only [mapO] at h1
    cases hr : cRes P r with
    | none => simp [hr] at h1
    | some rv =>
      cases hl : mapO (cRes P) l with
      | none => simp [hr, hl] at h1
      | some rvs' =>
        simp only [hr, hl, Option.some.injEq] at h1
        subst h1
        simp only [mapO] at h2
        cases hg : RV.get st rv with
        | none => simp [hg] at h2
        | some av =>
          cases hgs : mapO (RV.get st) rvs' with
          | none => simp [hg, hgs] at h2
          | some avs' =>
            simp only [hg, hgs, Option.some.injEq] at h2
            subst h2
            obtain ⟨us, hus, hul⟩ := res_sound hI l rvs' avs' hl hgs
            cases r with
            | tmp t =>
              simp only [cRes, Option.some.injEq] at hr
              subst hr
              simp only [RV.get, Option.some.injEq] at hg
              subst hg
              refine ⟨a.tmps.getD t undef :: us, ?_, by simp only [RdAL]; exact ⟨_, _, rfl, (hI.env t).strip, hul⟩⟩
              rw [List.mapM_cons]
              simp only [resOf, Sem.run_bind, Sem.run_pure, Result.andThen_ok, hus]
            | cell ad t =>
              simp only [cRes] at hr
              split at hr
              · rename_i g sz hag hsz
                simp only [Option.some.injEq] at hr
                subst hr
                simp only [RV.get] at hg
                obtain ⟨u, hu, hra⟩ := load_sound hI hag hsz (hI.env ad) hg
                obtain ⟨p, hp⟩ := aLoad_ptr (hI.env ad) hg
                rw [hp] at hu
                simp only [Instr.loadAt, Instr.sureAddr, Sem.run_bind, Sem.run_pure, Result.andThen_ok] at hu
                refine ⟨u :: us, ?_, by simp only [RdAL]; exact ⟨_, _, rfl, hra, hul⟩⟩
                rw [List.mapM_cons]
                simp only [resOf, hp, asAddr, Sem.run_bind, Sem.run_pure, Result.andThen_ok, hu, hus]
              · cases hr

theorem initV_data {w : World} {S : Nat → Nat → Prop} {x : DV} {u : Value} (h : RdD w S x u) (t : Nat) : initV t x = .d x ∧ initO x = none := by
  cases x <;> first
    | exact ⟨rfl, rfl⟩
    | (simp only [RdD] at h)
theorem initV_w {t : Nat} {x : DV} {t' : Nat} {want : Bool} {v : AV} (h : initV t x = .w t' want v) : False := by
  cases x <;> simp [initV] at h
theorem init_inv {w : World} {o : Base} {ds : List DV} {vs : List Value} (h : ArgsAt w S0 ds vs o) (hS : ∀ b p, S0 b p → b < w.heap.size) {n : Nat} (hn : ds.length ≤ n) :
    ∃ ρ, Inv o S0 n ρ S0 (St.init ds) { tmps := vs.toArray ++ Array.replicate (n - vs.toArray.size) undef, defers := [] } w := by
  have key : ∃ ρ, o.w = w ∧ vs.length = ds.length ∧ (∀ t x, ds[t]? = some x → ∃ u, vs[t]? = some u ∧ RdA w S0 ρ (initV t x) u) ∧ (∀ s x o', ds[s]? = some x → initO x = some o' → s = 0 ∧ SegOk o.old w S0 ρ s o') := by
    have data : ∀ ρ, RdL w S0 ds vs → (∀ t x, ds[t]? = some x → ∃ u, vs[t]? = some u ∧ RdA w S0 ρ (initV t x) u) ∧ (∀ s x o', ds[s]? = some x → initO x = some o' → s = 0 ∧ SegOk o.old w S0 ρ s o') := fun ρ h => by
      refine ⟨fun t x hx => ?_, fun s x o' hx ho => ?_⟩
      · obtain ⟨u, hu, hr⟩ := RdL.at _ _ h t x hx
        exact ⟨u, hu, by rw [(initV_data hr t).1]; simpa only [RdA] using hr⟩
      · obtain ⟨u, hu, hr⟩ := RdL.at _ _ h s x hx
        rw [(initV_data hr s).2] at ho
        cases ho
    unfold ArgsAt at h
    split at h
    · rename_i el sz es ds'
      obtain ⟨v, vs', g, rfl, ⟨cap, rfl, hrows, hro⟩, hl, rfl⟩ := h
      refine ⟨fun s => if s = 0 then (g, cap) else (0, 0), rfl, by simp [RdL.length _ _ hl], fun t x hx => ?_, fun s x o' hx ho => ?_⟩
      · cases t with
        | zero =>
          simp only [List.getElem?_cons_zero, Option.some.injEq] at hx
          subst hx
          refine ⟨_, rfl, ?_⟩
          simp only [initV, RdA, if_true]
          exact ⟨_, _, rfl, fun _ => by simp, fun _ => rfl, hro.fits, rfl⟩
        | succ t =>
          simp only [List.getElem?_cons_succ] at hx ⊢
          obtain ⟨u, hu, hr⟩ := RdL.at _ _ hl t x hx
          exact ⟨u, hu, by rw [(initV_data hr _).1]; simpa only [RdA] using hr⟩
      · cases s with
        | zero =>
          simp only [List.getElem?_cons_zero, Option.some.injEq] at hx
          subst hx
          simp only [initO, Option.some.injEq] at ho
          subst ho
          exact ⟨rfl, hrows, by simpa using ⟨fun h => h.2 rfl, hro.here, hro.fits, hro.len, hro.apart⟩⟩
        | succ s =>
          simp only [List.getElem?_cons_succ] at hx
          obtain ⟨u, hu, hr⟩ := RdL.at _ _ hl s x hx
          rw [(initV_data hr s).2] at ho
          cases ho
    · obtain ⟨h, rfl⟩ := h
      exact ⟨fun _ => (0, 0), rfl, RdL.length _ _ h, data _ h⟩
  obtain ⟨ρ, how, hl, hv, hs⟩ := key
  have hw : ∀ m t' want x, (St.init ds).env m = .w t' want x → False := by
    intro m t' want x he
    simp only [St.init] at he
    split at he
    · exact initV_w he
    · cases he
  refine ⟨ρ, by simp; omega, rfl, fun t => ?_, fun m t want v he _ => (hw _ _ _ _ he).elim, fun m t want v he _ => (hw _ _ _ _ he).elim, fun s o' h => ?_, fun s s' o1 o2 h h' _ => ?_, hS, fun _ _ h => h, fun _ _ h => .inl h, how ▸ BelowP.refl _ _⟩
  · simp only [St.init]
    cases hd : ds[t]? with
    | none => simp only [RdA]
    | some x =>
      obtain ⟨u, hu, hr⟩ := hv t x hd
      have ht : t < vs.length := (List.getElem?_eq_some_iff.1 hu).1
      have : (vs.toArray ++ Array.replicate (n - vs.toArray.size) undef)[t]? = some u := by
        rw [Array.getElem?_append_left (by simpa using ht)]
        simpa using hu
      rw [Array.getD_eq_getD_getElem?, this]
      exact hr
  · simp only [St.init] at h
    split at h
    · rename_i x hx
      exact (hs s x o' hx h).2
    · cases h
  · simp only [St.init] at h h'
    split at h
    · rename_i x hx
      split at h'
      · rename_i x' hx'
        rw [(hs s x o1 hx h).1, (hs s' x' o2 hx' h').1]
      · cases h'
    · cases h

theorem aret_sound (hI : Inv w0 S0 N ρ S st a w) {fn : Func} {rvs : List RV} (hr : mapO (cRes P) fn.results.toList = some rvs) {r : DV} (h : aRet st rvs = some r) :
    ∃ v S', (results fn a.tmps).run P w = .ok v w ∧ Post w0 S0 r v w S' := by
  unfold aRet at h
  have fin : ∀ (avs : List AV) (v : AV), mapO (RV.get st) rvs = some avs → (avs = [v] ∨ (avs.length ≠ 1 ∧ v = .tuple avs)) → retTop st v = some r → ∃ u S', (results fn a.tmps).run P w = .ok u w ∧ Post w0 S0 r u w S' := by
    intro avs v hg hv ht
    obtain ⟨us, hus, hul⟩ := res_sound hI _ _ _ hr hg
    have hrun : (fn.results.mapM (resOf a.tmps)).run P w = .ok us.toArray w := by
      rw [Array.mapM_eq_mapM_toList]
      simp only [Sem.run_map, hus, Result.andThen_ok]
    have hlen := RdAL.length _ _ hul
    have hres : ∀ u, (if h : us.toArray.size = 1 then us.toArray[0] else Value.tuple us.toArray) = u → (results fn a.tmps).run P w = .ok u w := by
      intro u hu
      show (do let vs ← fn.results.mapM (resOf a.tmps); pure (if h : vs.size = 1 then vs[0] else .tuple vs) : Sem Value).run P w = .ok u w
      rw [Sem.run_bind, hrun]
      simp only [Result.andThen_ok, Sem.run_pure]
      rw [hu]
    rcases hv with rfl | ⟨hne, rfl⟩
    · simp only [RdAL] at hul
      obtain ⟨u, us', rfl, hu, rfl⟩ := hul
      obtain ⟨S', hp⟩ := ret_sound hI hu ht
      exact ⟨u, S', hres u (by simp), hp⟩
    · obtain ⟨S', hp⟩ := ret_sound hI (u := .tuple us.toArray) (by simp only [RdA]; exact ⟨us, rfl, hul⟩) ht
      exact ⟨_, S', hres _ (by rw [dif_neg (by simp; omega)]), hp⟩
  split at h
  · rename_i v hg
    exact fin _ v hg (.inl rfl) h
  · rename_i vs hne hg
    refine fin vs _ hg (.inr ⟨fun hl => ?_, rfl⟩) h
    match vs, hl with
    | [v], _ => exact hne v rfl
  · cases h

end

/-- a function's contract, from its run -/
theorem fn_ok {P : Program} {call : FuncId → List DV → Option DV} (hcall : CallOk P call) {run : Run} (hrun : run.ok) {L : Nat} {fn : Func} {f : FuncId} {fn' : AFn} (hfn : P.funcs[f]? = some fn) (hcf : cFn P fn = some fn'.erase)
    {ds : List DV} {r : DV} (hlen : ds.length ≤ fn'.ntmps) (h : (match exec call run L fn'.body (St.init ds) with
        | some (.nrm, st) => aRet st fn'.res
        | some (.ret, st) => aRet st fn'.res
        | _ => none) = some r) :
    Ent P f ds r := by
  unfold cFn at hcf
  cases hb : fn.body with
  | none => simp [hb] at hcf
  | some c =>
    simp only [hb] at hcf
    split at hcf
    · cases hcf
    · rename_i hname
      split at hcf
      · cases hcf
      split at hcf
      · rename_i b rs hcode hres
        simp only [Option.some.injEq, AFn.erase] at hcf
        injection hcf with h1 h2 h3
        subst h1
        refine ⟨⟨fn, hfn, by simpa using hname, by simp [hb]⟩, fun w vs S0 o hl hS => ?_⟩
        rw [← h2] at hlen
        rw [← h3] at h
        obtain ⟨ρ0, hinit⟩ := init_inv hl hS hlen
        refine calls_of_wp hfn hb ?_
        have fin : ∀ (e : Ex) (st : St), exec call run L fn'.body (St.init ds) = some (e, st) → aRet st rs = some r → (e = .nrm ∨ e = .ret) →
            c.wp P (bodyPost P fn fun e w' => ∃ v S', e = .returned v ∧ Post o S0 r v w' S') { tmps := vs.toArray ++ Array.replicate (fn.ntmps - vs.toArray.size) undef, defers := [] } w := by
          intro e st he hr hee
          refine code_sound hcall hrun c fn'.body hcode _ st e he _ w ⟨_, _, hinit⟩ _ fun a' w' hI' => ?_
          obtain ⟨ρ, S, hI⟩ := hI'
          obtain ⟨v, S', h1, h2⟩ := aret_sound hI hres hr
          rcases hee with rfl | rfl
          · exact ⟨hI.defers, v, h1, v, S', rfl, h2⟩
          · exact ⟨hI.defers, v, h1, v, S', rfl, h2⟩
        split at h
        · rename_i st he
          exact fin _ st he h (.inl rfl)
        · rename_i st he
          exact fin _ st he h (.inr rfl)
        · cases h
      · cases hcf

theorem acall_ok {P : Program} {tab : FuncId → Option AFn} (htab : ∀ f fn', tab f = some fn' → ∃ fn, P.funcs[f]? = some fn ∧ cFn P fn = some fn'.erase) (L : Nat) : ∀ n, CallOk P (acall tab L n) := by
  intro n
  induction n with
  | zero => intro f ds r h; simp [acall] at h
  | succ n ih =>
    intro f ds r h
    simp only [acall] at h
    cases ht : tab f with
    | none => simp [ht] at h
    | some fn' =>
      obtain ⟨fn, hfn, hcf⟩ := htab f fn' ht
      simp only [ht] at h
      split at h
      · rename_i hlen
        exact (fn_ok ih Run.plain_ok hfn hcf hlen h).x
      · cases h
theorem acall_ent {P : Program} {tab : FuncId → Option AFn} (htab : ∀ f fn', tab f = some fn' → ∃ fn, P.funcs[f]? = some fn ∧ cFn P fn = some fn'.erase) {L n : Nat} {f : FuncId} {ds : List DV} {r : DV} (h : acall tab L n f ds = some r) : Ent P f ds r := by
  cases n with
  | zero => simp [acall] at h
  | succ n =>
    simp only [acall] at h
    cases ht : tab f with
    | none => simp [ht] at h
    | some fn' =>
      obtain ⟨fn, hfn, hcf⟩ := htab f fn' ht
      simp only [ht] at h
      split at h
      · rename_i hlen
        exact fn_ok (acall_ok htab L n) Run.plain_ok hfn hcf hlen h
      · cases h
end Go.Proofs.Ytjejjokdbbedlaa.Vm
