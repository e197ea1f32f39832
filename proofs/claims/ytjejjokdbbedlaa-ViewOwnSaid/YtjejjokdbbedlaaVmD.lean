/- An operation that changes nothing does in the model what the pure machine says. No condition. -/
import Derived.Test.YtjejjokdbbedlaaVmC
namespace Go.Proofs.Ytjejjokdbbedlaa.Vm
open Go Go.RowKit
set_option linter.unusedVariables false
set_option linter.unusedSimpArgs false
set_option linter.unusedSectionVars false

theorem mapO_at {α β : Type} {f : α → Option β} : ∀ {l : List α} {m : List β}, mapO f l = some m → m.length = l.length ∧ ∀ (i : Nat) (x : α), l[i]? = some x → ∃ y, m[i]? = some y ∧ f x = some y
  | [], m, h => by simp only [mapO, Option.some.injEq] at h; subst h; simp
  | x :: l, m, h => by
    simp only [mapO] at h
    cases hx : f x with
    | none => simp [hx] at h
    | some y =>
      cases hl : mapO f l with
      | none => simp [hx, hl] at h
      | some m' =>
        simp only [hx, hl, Option.some.injEq] at h
        subst h
        obtain ⟨h1, h2⟩ := mapO_at hl
        refine ⟨by simp [h1], fun i z hz => ?_⟩
        cases i with
        | zero => simp at hz; subst hz; exact ⟨y, by simp, hx⟩
        | succ i => simpa using h2 i z (by simpa using hz)

theorem cCell_sound (w : World) (S : Nat → Nat → Prop) {v : Value} {c : DV} (h : cCell v = some c) : RdD w S c v ∧ c.one = true := by
  unfold cCell at h
  split at h <;> first
    | (simp only [Option.some.injEq] at h; subst h; exact ⟨by simp only [RdD], rfl⟩)
    | cases h
theorem cCells_sound (w : World) (S : Nat → Nat → Prop) {vs : List Value} {cs : List DV} (h : mapO cCell vs = some cs) : RdL w S cs vs ∧ cs.all DV.one = true := by
  obtain ⟨h1, h2⟩ := mapO_at h
  refine ⟨RdL.mk cs vs h1.symm fun i c u hc hu => ?_, ?_⟩
  · obtain ⟨y, hy, hf⟩ := h2 i u hu
    rw [hc] at hy
    simp only [Option.some.injEq] at hy
    subst hy
    exact (cCell_sound w S hf).1
  · rw [List.all_eq_true]
    intro c hc
    obtain ⟨i, hi, rfl⟩ := List.getElem_of_mem hc
    have hu : vs[i]? = some (vs[i]'(by omega)) := List.getElem?_eq_getElem (by omega)
    obtain ⟨y, hy, hf⟩ := h2 i _ hu
    rw [List.getElem?_eq_getElem hi] at hy
    simp only [Option.some.injEq] at hy
    subst hy
    exact (cCell_sound w S hf).2
theorem cVal_sound (w : World) (S : Nat → Nat → Prop) {v : Value} {c : DV} (h : cVal v = some c) : RdD w S c v := by
  unfold cVal at h
  split at h
  · rename_i cs
    simp only [Option.map_eq_some_iff] at h
    obtain ⟨m, hm, rfl⟩ := h
    simp only [RdD]
    exact ⟨cs.toList, by simp, (cCells_sound w S hm).1⟩
  · exact (cCell_sound w S h).1

section
variable {P : Program} {w0 : Base} {S0 : Nat → Nat → Prop} {N : Nat} {ρ : Nat → Nat × Nat} {S : Nat → Nat → Prop} {st : St} {a : Act} {w : World}

theorem RdA.strip {v : AV} {u : Value} (h : RdA w S ρ v u) : RdA w S ρ v.strip u := by
  cases v <;> first | exact h | simp only [AV.strip, RdA]
theorem ax_sound (hI : Inv w0 S0 N ρ S st a w) {x : Operand} {ax : AX} (h : cAX x = some ax) : RdA w S ρ (ax.ev st) (a.eval x) := by
  unfold cAX at h
  split at h
  · simp only [Option.some.injEq] at h; subst h; exact RdA.strip (hI.env _)
  · simp only [Option.map_eq_some_iff] at h
    obtain ⟨c, hc, rfl⟩ := h
    simp only [AX.ev, RdA, Act.eval]
    exact cVal_sound w S hc
  · simp only [Option.some.injEq] at h
    subst h
    simp only [AX.ev, RdA, RdD, Act.eval]
    exact ⟨[], rfl, by simp only [RdL]⟩
  · cases h

theorem axs_sound (hI : Inv w0 S0 N ρ S st a w) {xs : List Operand} {axs : List AX} (h : mapO cAX xs = some axs) : RdAL w S ρ (axs.map (·.ev st)) (xs.map a.eval) := by
  obtain ⟨h1, h2⟩ := mapO_at h
  refine RdAL.mk _ _ (by simp [h1]) fun i c u hc hu => ?_
  simp only [List.getElem?_map, Option.map_eq_some_iff] at hc hu
  obtain ⟨ax, hax, rfl⟩ := hc
  obtain ⟨x, hx, rfl⟩ := hu
  obtain ⟨y, hy, hf⟩ := h2 i x hx
  rw [hax] at hy
  simp only [Option.some.injEq] at hy
  subst hy
  exact ax_sound hI hf

theorem add_mk (b o n : Nat) : (⟨b, o, none⟩ : Addr).add n = ⟨b, o + n, none⟩ := by
  unfold Addr.add; split <;> simp_all

theorem run_isAggT {t : TypeId} {g : Bool} (h : isAggT P t = some g) (w : World) : (isAgg t).run P w = .ok g w := by
  unfold isAggT at h
  cases hu : P.underlying t with
  | none => simp [hu] at h
  | some d =>
    simp only [hu] at h
    cases d <;> simp_all [isAgg, run_underlying hu]
theorem run_sizeT {t : TypeId} {n : Nat} (h : sizeT P t = some n) (w : World) : (sizeOf t).run P w = .ok n w := by
  unfold sizeT at h
  simp only [Option.map_eq_some_iff] at h
  obtain ⟨i, hi, rfl⟩ := h
  simp [sizeOf, typeInfo, hi]
theorem elemT_under {t e : TypeId} (h : elemT P t = some e) : P.underlying t = some (.slice e) := by
  unfold elemT at h
  split at h
  · rename_i hu; simp only [Option.some.injEq] at h; subst h; exact hu
  · cases h

/-! ### loads -/
theorem run_loadVar_of {t : TypeId} {g : Bool} {sz : Nat} (hg : isAggT P t = some g) (hs : sizeT P t = some sz) (b o : Nat) (w : World)
    (us : List Value) (hl : if g then us.length = sz else us.length = 1) (hc : ∀ (j : Nat) (u : Value), us[j]? = some u → w.cell? ⟨b, o + j, none⟩ = some u) :
    (loadVar t ⟨b, o, none⟩).run P w = .ok (if g then .agg us.toArray else us.getD 0 undef) w := by
  cases g with
  | true =>
    simp only [if_true] at hl
    subst hl
    have := run_loadCells_list (P := P) w ⟨b, o, none⟩ us (fun j u hu => by rw [add_mk]; exact hc j u hu)
    simp [loadVar, run_isAggT hg, run_sizeT hs, this]
  | false =>
    simp only [Bool.false_eq_true, if_false] at hl
    match us, hl with
    | [u], _ =>
      have h0 := hc 0 u rfl
      simp only [Nat.add_zero] at h0
      simp [loadVar, run_isAggT hg, h0]

theorem load_sound (hI : Inv w0 S0 N ρ S st a w) {t : TypeId} {g : Bool} {sz : Nat} (hg : isAggT P t = some g) (hs : sizeT P t = some sz)
    {x av : AV} {v : Value} (hx : RdA w S ρ x v) (h : aLoad st g sz x = some av) : ∃ u, (Instr.loadAt t v).run P w = .ok u w ∧ RdA w S ρ av u := by
  cases x with
  | d x =>
    cases x with
    | rptr e off =>
      simp only [RdA, RdD] at hx
      obtain ⟨b, o, rfl, hc⟩ := hx
      simp only [aLoad, valD] at h
      cases g with
      | true =>
        simp only [if_true] at h
        split at h
        · rename_i hle
          simp only [Option.some.injEq] at h
          subst h
          have hex : ∀ j, j < sz → ∃ u, w.cell? ⟨b, o + off + j, none⟩ = some u ∧ ∀ c, e[off + j]? = some c → RdD w S c u := by
            intro j hj
            have hlt : off + j < e.length := by omega
            obtain ⟨_, u, hu, hr⟩ := RdC.at e b o hc (off + j) _ (List.getElem?_eq_getElem hlt)
            refine ⟨u, by rwa [Nat.add_assoc], fun c hc => ?_⟩
            rw [List.getElem?_eq_getElem hlt] at hc
            simp only [Option.some.injEq] at hc
            subst hc; exact hr
          let us : List Value := (List.range sz).map fun j => if hj : j < sz then (hex j hj).choose else undef
          have hus : ∀ (j : Nat) (u : Value), us[j]? = some u → w.cell? ⟨b, o + off + j, none⟩ = some u ∧ ∀ c, e[off + j]? = some c → RdD w S c u := by
            intro j u hu
            have hj : j < sz := by
              have := (List.getElem?_eq_some_iff.1 hu).1
              simpa [us] using this
            simp only [us, List.getElem?_map, List.getElem?_range hj, Option.map_some, Option.some.injEq, hj, dif_pos] at hu
            subst hu
            exact (hex j hj).choose_spec
          have := run_loadVar_of hg hs b (o + off) w us (by simp [us]) (fun j u hu => (hus j u hu).1)
          refine ⟨_, by simpa [Instr.loadAt, Instr.sureAddr] using this, ?_⟩
          simp only [RdA, RdD]
          refine ⟨us, rfl, RdL.mk _ _ (by simp [us]; omega) fun i c u hc hu => (hus i u hu).2 c ?_⟩
          rw [List.getElem?_take] at hc
          split at hc
          · simpa using hc
          · cases hc
        · cases h
      | false =>
        simp only [Bool.false_eq_true, if_false, Option.map_eq_some_iff] at h
        obtain ⟨c, hcc, rfl⟩ := h
        obtain ⟨_, u, hu, hr⟩ := RdC.at e b o hc off c hcc
        have := run_loadVar_of hg hs b (o + off) w [u] (by simp) (fun j u' hu' => by
          cases j with
          | zero => simp at hu'; subst hu'; simpa using hu
          | succ j => simp at hu')
        exact ⟨u, by simpa [Instr.loadAt, Instr.sureAddr] using this, by simpa only [RdA] using hr⟩
    | _ => simp [aLoad] at h
  | ptr s sz' i off =>
    simp only [RdA] at hx
    subst hx
    simp only [aLoad] at h
    cases hs' : st.seg s with
    | none => simp [hs'] at h
    | some ob =>
      have hok := hI.seg s ob hs'
      cases ob with
      | dat el sz'' es =>
        simp only [hs'] at h
        split at h
        · rename_i heq
          subst heq
          cases he : es[i]? with
          | none => simp [he] at h
          | some e =>
            simp only [he, Option.bind_some, valD] at h
            obtain ⟨hrows, hro⟩ := hok
            obtain ⟨cur, hcur, hsz, hcell⟩ := hro.here
            have hi : i < es.length := (List.getElem?_eq_some_iff.1 he).1
            have hel : e.length = sz' := (hrows e (List.mem_of_getElem? he)).1
            have hat : ∀ j c, e[j]? = some c → ∃ u, w.cell? ⟨(ρ s).1, i * sz' + j, none⟩ = some u ∧ RdD w S c u := by
              intro j c hc
              have hj : j < sz' := by rw [← hel]; exact (List.getElem?_eq_some_iff.1 hc).1
              obtain ⟨u, hu, hr⟩ := hcell i j hi hj
              exact ⟨u, by simp [World.cell?, hcur, hu], hr e c he hc⟩
            cases g with
            | true =>
              simp only [if_true] at h
              split at h
              · rename_i hle
                simp only [Option.some.injEq] at h
                subst h
                have hex : ∀ j, j < sz → ∃ u, w.cell? ⟨(ρ s).1, i * sz' + off + j, none⟩ = some u ∧ ∀ c, e[off + j]? = some c → RdD w S c u := by
                  intro j hj
                  have hlt : off + j < e.length := by omega
                  obtain ⟨u, hu, hr⟩ := hat (off + j) _ (List.getElem?_eq_getElem hlt)
                  refine ⟨u, by rwa [Nat.add_assoc], fun c hc => ?_⟩
                  rw [List.getElem?_eq_getElem hlt] at hc
                  simp only [Option.some.injEq] at hc
                  subst hc; exact hr
                let us : List Value := (List.range sz).map fun j => if hj : j < sz then (hex j hj).choose else undef
                have hus : ∀ (j : Nat) (u : Value), us[j]? = some u → w.cell? ⟨(ρ s).1, i * sz' + off + j, none⟩ = some u ∧ ∀ c, e[off + j]? = some c → RdD w S c u := by
                  intro j u hu
                  have hj : j < sz := by
                    have := (List.getElem?_eq_some_iff.1 hu).1
                    simpa [us] using this
                  simp only [us, List.getElem?_map, List.getElem?_range hj, Option.map_some, Option.some.injEq, hj, dif_pos] at hu
                  subst hu
                  exact (hex j hj).choose_spec
                have := run_loadVar_of hg hs (ρ s).1 (i * sz' + off) w us (by simp [us]) (fun j u hu => (hus j u hu).1)
                refine ⟨_, by simpa [Instr.loadAt, Instr.sureAddr] using this, ?_⟩
                simp only [RdA, RdD]
                refine ⟨us, rfl, RdL.mk _ _ (by simp [us]; omega) fun k c u hc hu => (hus k u hu).2 c ?_⟩
                rw [List.getElem?_take] at hc
                split at hc
                · simpa using hc
                · cases hc
              · cases h
            | false =>
              simp only [Bool.false_eq_true, if_false, Option.map_eq_some_iff] at h
              obtain ⟨c, hcc, rfl⟩ := h
              obtain ⟨u, hu, hr⟩ := hat off c hcc
              have := run_loadVar_of hg hs (ρ s).1 (i * sz' + off) w [u] (by simp) (fun j u' hu' => by
                cases j with
                | zero => simp at hu'; subst hu'; simpa using hu
                | succ j => simp at hu')
              exact ⟨u, by simpa [Instr.loadAt, Instr.sureAddr] using this, by simpa only [RdA] using hr⟩
        · cases h
      | mix el sz'' es =>
        simp only [hs'] at h
        split at h
        · rename_i heq
          subst heq
          cases he : es[i]? with
          | none => simp [he] at h
          | some e =>
            simp only [he, Option.bind_some, valA] at h
            obtain ⟨hrows, hro⟩ := hok
            obtain ⟨cur, hcur, hsz, hcell⟩ := hro.here
            have hi : i < es.length := (List.getElem?_eq_some_iff.1 he).1
            have hel : e.length = sz' := (hrows e (List.mem_of_getElem? he)).1
            have hat : ∀ j c, e[j]? = some c → ∃ u, w.cell? ⟨(ρ s).1, i * sz' + j, none⟩ = some u ∧ RdA w S ρ c u := by
              intro j c hc
              have hj : j < sz' := by rw [← hel]; exact (List.getElem?_eq_some_iff.1 hc).1
              obtain ⟨u, hu, hr⟩ := hcell i j hi hj
              exact ⟨u, by simp [World.cell?, hcur, hu], hr e c he hc⟩
            cases g with
            | true =>
              simp only [if_true] at h
              split at h
              · rename_i hle
                simp only [Option.some.injEq] at h
                subst h
                have hex : ∀ j, j < sz → ∃ u, w.cell? ⟨(ρ s).1, i * sz' + off + j, none⟩ = some u ∧ ∀ c, e[off + j]? = some c → RdA w S ρ c u := by
                  intro j hj
                  have hlt : off + j < e.length := by omega
                  obtain ⟨u, hu, hr⟩ := hat (off + j) _ (List.getElem?_eq_getElem hlt)
                  refine ⟨u, by rwa [Nat.add_assoc], fun c hc => ?_⟩
                  rw [List.getElem?_eq_getElem hlt] at hc
                  simp only [Option.some.injEq] at hc
                  subst hc; exact hr
                let us : List Value := (List.range sz).map fun j => if hj : j < sz then (hex j hj).choose else undef
                have hus : ∀ (j : Nat) (u : Value), us[j]? = some u → w.cell? ⟨(ρ s).1, i * sz' + off + j, none⟩ = some u ∧ ∀ c, e[off + j]? = some c → RdA w S ρ c u := by
                  intro j u hu
                  have hj : j < sz := by
                    have := (List.getElem?_eq_some_iff.1 hu).1
                    simpa [us] using this
                  simp only [us, List.getElem?_map, List.getElem?_range hj, Option.map_some, Option.some.injEq, hj, dif_pos] at hu
                  subst hu
                  exact (hex j hj).choose_spec
                have := run_loadVar_of hg hs (ρ s).1 (i * sz' + off) w us (by simp [us]) (fun j u hu => (hus j u hu).1)
                refine ⟨_, by simpa [Instr.loadAt, Instr.sureAddr] using this, ?_⟩
                simp only [RdA]
                refine ⟨us, rfl, RdAL.mk _ _ (by simp [us]; omega) fun k c u hc hu => (hus k u hu).2 c ?_⟩
                rw [List.getElem?_take] at hc
                split at hc
                · simpa using hc
                · cases hc
              · cases h
            | false =>
              simp only [Bool.false_eq_true, if_false] at h
              obtain ⟨u, hu, hr⟩ := hat off av h
              have := run_loadVar_of hg hs (ρ s).1 (i * sz' + off) w [u] (by simp) (fun j u' hu' => by
                cases j with
                | zero => simp at hu'; subst hu'; simpa using hu
                | succ j => simp at hu')
              exact ⟨u, by simpa [Instr.loadAt, Instr.sureAddr] using this, hr⟩
        · cases h
  | _ => simp [aLoad] at h

end
end Go.Proofs.Ytjejjokdbbedlaa.Vm
