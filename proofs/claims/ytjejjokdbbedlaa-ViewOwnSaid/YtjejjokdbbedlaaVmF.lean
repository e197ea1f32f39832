/- Each operation that changes nothing does in the model what the pure machine says. No condition. -/
import Derived.Test.YtjejjokdbbedlaaVmE
namespace Go.Proofs.Ytjejjokdbbedlaa.Vm
open Go Go.RowKit
set_option linter.unusedVariables false
set_option linter.unusedSimpArgs false
set_option linter.unusedSectionVars false
section
variable {P : Program} {w0 : Base} {S0 : Nat → Nat → Prop} {N : Nat} {ρ : Nat → Nat × Nat} {S : Nat → Nat → Prop} {st : St} {a : Act} {w : World}

/-! ### slicing -/
theorem run_sliceBound (k : IntKind) (i : Int) (y : Nat) (code : BoundsCode) (h0 : 0 ≤ i) (h1 : i ≤ y) : (Instr.sliceBound (.int k i) y code).run P w = .ok i.toNat w := by
  simp [Instr.sliceBound, asIntOf, h0, h1]

theorem optInt_sound (hI : Inv w0 S0 N ρ S st a w) {x : Option Operand} {ax : Option AX} {r : Option Int} (hc : cOpt x = some ax) (h : optInt st ax = some r) :
    (x = none ∧ r = none) ∨ ∃ o k n, x = some o ∧ r = some n ∧ a.eval o = .int k n := by
  unfold cOpt at hc
  split at hc
  · simp only [Option.some.injEq] at hc; subst hc
    simp only [optInt, Option.some.injEq] at h
    exact .inl ⟨rfl, h.symm⟩
  · rename_i o
    simp only [Option.map_eq_some_iff] at hc
    obtain ⟨ax', hax, rfl⟩ := hc
    simp only [optInt] at h
    split at h
    · rename_i k n he
      simp only [Option.some.injEq] at h
      have := ax_sound hI hax
      exact .inr ⟨o, k, n, rfl, h.symm, int_of this he⟩
    · cases h

theorem run_sliceBounds (len cap : Nat) (lo hi mx : Option Int) (vlo vhi vmx : Option Value)
    (elo : (vlo = none ∧ lo = none) ∨ ∃ k n, vlo = some (.int k n) ∧ lo = some n)
    (ehi : (vhi = none ∧ hi = none) ∨ ∃ k n, vhi = some (.int k n) ∧ hi = some n)
    (emx : (vmx = none ∧ mx = none) ∨ ∃ k n, vmx = some (.int k n) ∧ mx = some n)
    (h0 : 0 ≤ lo.getD 0) (h1 : lo.getD 0 ≤ hi.getD len) (h2 : hi.getD len ≤ mx.getD cap) (h3 : mx.getD cap ≤ cap) (h4 : mx.isSome = true → hi.isSome = true) :
    (Instr.sliceBounds true len cap vlo vhi vmx).run P w = .ok ((lo.getD 0).toNat, (hi.getD len).toNat, (mx.getD cap).toNat) w := by
  have h5 : 0 ≤ hi.getD len := Int.le_trans h0 h1
  have h6 : 0 ≤ mx.getD cap := Int.le_trans h5 h2
  rcases emx with ⟨rfl, rfl⟩ | ⟨km, nm, rfl, rfl⟩
  · rcases ehi with ⟨rfl, rfl⟩ | ⟨kh, nh, rfl, rfl⟩
    · rcases elo with ⟨rfl, rfl⟩ | ⟨kl, nl, rfl, rfl⟩
      · simp [Instr.sliceBounds]
      · simp only [Option.getD_some, Option.getD_none] at *
        simp [Instr.sliceBounds, run_sliceBound kl nl len _ h0 h1]
    · simp only [Option.getD_some, Option.getD_none] at *
      have hh := fun c => run_sliceBound (P := P) (w := w) kh nh cap c h5 h2
      rcases elo with ⟨rfl, rfl⟩ | ⟨kl, nl, rfl, rfl⟩
      · simp [Instr.sliceBounds, hh]
      · simp only [Option.getD_some, Option.getD_none] at *
        have hl := fun c => run_sliceBound (P := P) (w := w) kl nl nh.toNat c h0 (by omega)
        simp [Instr.sliceBounds, hh, hl]
  · rcases ehi with ⟨rfl, rfl⟩ | ⟨kh, nh, rfl, rfl⟩
    · simp at h4
    · simp only [Option.getD_some, Option.getD_none] at *
      have hm := fun c => run_sliceBound (P := P) (w := w) km nm cap c h6 h3
      have hh := fun c => run_sliceBound (P := P) (w := w) kh nh nm.toNat c h5 (by omega)
      rcases elo with ⟨rfl, rfl⟩ | ⟨kl, nl, rfl, rfl⟩
      · simp [Instr.sliceBounds, hm, hh]
      · simp only [Option.getD_some, Option.getD_none] at *
        have hl := fun c => run_sliceBound (P := P) (w := w) kl nl nh.toNat c h0 (by omega)
        simp [Instr.sliceBounds, hm, hh, hl]

theorem RdE.drop_take {es : List (List DV)} {sz b o : Nat} (h : RdE w S es sz b o) (l n : Nat) : RdE w S ((es.take n).drop l) sz b (o + l * sz) := by
  refine RdE.mk _ _ _ _ fun i e he => ?_
  rw [List.getElem?_drop, List.getElem?_take] at he
  split at he
  · have := RdE.at es sz b o h (l + i) e he
    rwa [show o + l * sz + i * sz = o + (l + i) * sz by rw [Nat.add_mul]; omega]
  · cases he

theorem slice_sound (hI : Inv w0 S0 N ρ S st a w) {t e : TypeId} {sz : Nat} (ht : P.underlying t = some (.slice e)) (hs : sizeT P e = some sz) {ox : Operand} {x av : AV} {vx : Value}
    (hx : RdA w S ρ x vx) {lo hi mx : Option Operand} {alo ahi amx : Option AX} (clo : cOpt lo = some alo) (chi : cOpt hi = some ahi) (cmx : cOpt mx = some amx)
    (h : aSlice st sz x alo ahi amx = some av) : ∃ u, (Instr.sliceAt t vx (lo.map a.eval) (hi.map a.eval) (mx.map a.eval)).run P w = .ok u w ∧ RdA w S ρ av u := by
  unfold aSlice at h
  split at h
  · rename_i ilo ihi imx hlo hhi hmx
    have elo := optInt_sound hI clo hlo
    have ehi := optInt_sound hI chi hhi
    have emx := optInt_sound hI cmx hmx
    have elo' : (lo.map a.eval = none ∧ ilo = none) ∨ ∃ k n, lo.map a.eval = some (.int k n) ∧ ilo = some n := by
      rcases elo with ⟨rfl, rfl⟩ | ⟨o, k, n, rfl, rfl, he⟩
      · exact .inl ⟨rfl, rfl⟩
      · exact .inr ⟨k, n, by simp [he], rfl⟩
    have ehi' : (hi.map a.eval = none ∧ ihi = none) ∨ ∃ k n, hi.map a.eval = some (.int k n) ∧ ihi = some n := by
      rcases ehi with ⟨rfl, rfl⟩ | ⟨o, k, n, rfl, rfl, he⟩
      · exact .inl ⟨rfl, rfl⟩
      · exact .inr ⟨k, n, by simp [he], rfl⟩
    have emx' : (mx.map a.eval = none ∧ imx = none) ∨ ∃ k n, mx.map a.eval = some (.int k n) ∧ imx = some n := by
      rcases emx with ⟨rfl, rfl⟩ | ⟨o, k, n, rfl, rfl, he⟩
      · exact .inl ⟨rfl, rfl⟩
      · exact .inr ⟨k, n, by simp [he], rfl⟩
    generalize lo.map a.eval = vlo at *
    generalize hi.map a.eval = vhi at *
    generalize mx.map a.eval = vmx at *
    have hrun : ∀ (ao : Option Addr) (len cap : Nat), 0 ≤ ilo.getD 0 → ilo.getD 0 ≤ ihi.getD len → ihi.getD len ≤ imx.getD cap → imx.getD cap ≤ cap → (imx.isSome = true → ihi.isSome = true) →
        (Instr.sliceAt t (.slice ao len cap) vlo vhi vmx).run P w =
          .ok (.slice (if (imx.getD cap).toNat = (ilo.getD 0).toNat then ao else ao.map (·.add ((ilo.getD 0).toNat * sz))) ((ihi.getD len).toNat - (ilo.getD 0).toNat) ((imx.getD cap).toNat - (ilo.getD 0).toNat)) w := by
      intro ao len cap h0 h1 h2 h3 h4
      have := run_sliceBounds (P := P) (w := w) len cap ilo ihi imx vlo vhi vmx elo' ehi' emx' h0 h1 h2 h3 h4
      simp only [Instr.sliceAt, Instr.slice, Sem.run_bind, run_underlying ht, Result.andThen_ok, this, run_sizeT hs, Sem.run_pure]
    dsimp only at h
    split at h
    · -- nil
      split at h
      · rename_i hc
        obtain ⟨c1, c2, c3, c4⟩ := hc
        simp only [Option.some.injEq] at h; subst h
        simp only [RdA, RdD] at hx; subst hx
        have hh : ihi.getD ((0 : Nat) : Int) = 0 := by cases ihi <;> simp_all
        have hm : imx.getD ((0 : Nat) : Int) = 0 := by cases imx <;> simp_all
        have := hrun none 0 0 (by omega) (by omega) (by omega) (by omega) (by simpa using c4)
        refine ⟨_, this, ?_⟩
        simp [RdA, RdD, hh, hm, c1, c2, c3]
      · cases h
    · -- data
      rename_i k sz' es
      split at h
      · rename_i hc
        obtain ⟨rfl, c0, c1, c2⟩ := hc
        simp only [RdA, RdD] at hx
        obtain ⟨a0, b, o, cap, rfl, ha0, hcap, htight, he⟩ := hx
        have haddr : ∀ (m : Nat), (if m = (ilo.getD 0).toNat then some a0 else (some a0).map (·.add ((ilo.getD 0).toNat * sz))) =
            some (if m = (ilo.getD 0).toNat then a0 else a0.add ((ilo.getD 0).toNat * sz)) := by
          intro m
          split <;> rfl
        have haddr2 : ∀ (m : Nat), es.length ≠ 0 → (if m = (ilo.getD 0).toNat then a0 else a0.add ((ilo.getD 0).toNat * sz)) = ⟨b, if m = (ilo.getD 0).toNat then o else o + (ilo.getD 0).toNat * sz, none⟩ := by
          intro m h0
          rw [ha0 h0]
          split <;> simp [add_mk]
        have hlen : ((es.take (ihi.getD es.length).toNat).drop (ilo.getD 0).toNat).length = (ihi.getD es.length).toNat - (ilo.getD 0).toNat := by
          simp only [List.length_drop, List.length_take]; omega
        have hrow : ∀ (m : Nat), (ihi.getD es.length).toNat ≤ m → RdE w S ((es.take (ihi.getD es.length).toNat).drop (ilo.getD 0).toNat) sz b (if m = (ilo.getD 0).toNat then o else o + (ilo.getD 0).toNat * sz) := by
          intro m hm
          split
          · rename_i hml
            have : (es.take (ihi.getD es.length).toNat).drop (ilo.getD 0).toNat = [] := by
              apply List.eq_nil_of_length_eq_zero
              rw [hlen]; omega
            rw [this]; simp only [RdE]
          · exact RdE.drop_take he _ _
        split at h
        · simp only [Option.some.injEq] at h; subst h
          simp only [Option.getD_none] at hrun
          have := hrun (some a0) es.length cap c0 c1 (by omega) (by omega) (by simp)
          refine ⟨_, this, ?_⟩
          simp only [RdA, RdD]
          rw [haddr]
          refine ⟨_, b, _, ((cap : Int)).toNat - (ilo.getD 0).toNat, by simp only [hlen], fun h0 => haddr2 _ (by rw [hlen] at h0; omega), ?_, ?_, hrow ((cap : Int)).toNat (by omega)⟩
          · rw [hlen]; omega
          · intro hk
            split at hk
            · rename_i hh
              rw [hlen]
              have := htight hh.2
              omega
            · cases hk
        · rename_i m
          split at h
          · rename_i hmh
            simp only [Option.some.injEq] at h; subst h
            simp only [Option.getD_some] at hrun
            have := hrun (some a0) es.length cap c0 c1 (by omega) (by omega) (by simpa using hmh.1)
            refine ⟨_, this, ?_⟩
            simp only [RdA, RdD]
            rw [haddr]
            refine ⟨_, b, _, m.toNat - (ilo.getD 0).toNat, by simp only [hlen], fun h0 => haddr2 _ (by rw [hlen] at h0; omega), ?_, ?_, hrow m.toNat (by omega)⟩
            · rw [hlen]; omega
            · intro _
              rw [hlen]
              omega
          · cases h
      · cases h
    · -- data, or none
      rename_i k sz' es
      split at h
      · rename_i hc
        obtain ⟨rfl, c0, c1, c2⟩ := hc
        simp only [RdA] at hx
        rcases hx.sla with ⟨rfl, rfl⟩ | hx
        · simp only [List.length_nil] at c1 c2
          have hl0 : ilo.getD 0 = 0 := by omega
          have hh0 : ihi.getD ((0 : Nat) : Int) = 0 := by omega
          have hm0 : imx.getD ((0 : Nat) : Int) = 0 ∧ (imx.isSome = true → ihi.isSome = true) := by
            cases imx with
            | none => simp
            | some m =>
              simp only [List.length_nil] at h
              split at h
              · rename_i h5
                refine ⟨by simp only [Option.getD_some]; omega, fun _ => h5.1⟩
              · cases h
          have hav : ∃ q, av = .d (.sla q sz []) := by
            split at h
            · simp only [Option.some.injEq] at h
              exact ⟨false, by rw [← h]; simp⟩
            · split at h
              · simp only [Option.some.injEq] at h
                exact ⟨true, by rw [← h]; simp⟩
              · cases h
          obtain ⟨q, rfl⟩ := hav
          have := hrun none 0 0 (by omega) (by omega) (by omega) (by omega) hm0.2
          refine ⟨_, this, ?_⟩
          simp only [RdA, RdD]
          left
          have hh1 : ihi.getD 0 = 0 := hh0
          have hm1 : imx.getD 0 = 0 := hm0.1
          simp [hl0, hh1, hm1]
        simp only [RdD] at hx
        obtain ⟨a0, b, o, cap, rfl, ha0, hcap, htight, he⟩ := hx
        have haddr : ∀ (m : Nat), (if m = (ilo.getD 0).toNat then some a0 else (some a0).map (·.add ((ilo.getD 0).toNat * sz))) =
            some (if m = (ilo.getD 0).toNat then a0 else a0.add ((ilo.getD 0).toNat * sz)) := by
          intro m
          split <;> rfl
        have haddr2 : ∀ (m : Nat), es.length ≠ 0 → (if m = (ilo.getD 0).toNat then a0 else a0.add ((ilo.getD 0).toNat * sz)) = ⟨b, if m = (ilo.getD 0).toNat then o else o + (ilo.getD 0).toNat * sz, none⟩ := by
          intro m h0
          rw [ha0 h0]
          split <;> simp [add_mk]
        have hlen : ((es.take (ihi.getD es.length).toNat).drop (ilo.getD 0).toNat).length = (ihi.getD es.length).toNat - (ilo.getD 0).toNat := by
          simp only [List.length_drop, List.length_take]; omega
        have hrow : ∀ (m : Nat), (ihi.getD es.length).toNat ≤ m → RdE w S ((es.take (ihi.getD es.length).toNat).drop (ilo.getD 0).toNat) sz b (if m = (ilo.getD 0).toNat then o else o + (ilo.getD 0).toNat * sz) := by
          intro m hm
          split
          · rename_i hml
            have : (es.take (ihi.getD es.length).toNat).drop (ilo.getD 0).toNat = [] := by
              apply List.eq_nil_of_length_eq_zero
              rw [hlen]; omega
            rw [this]; simp only [RdE]
          · exact RdE.drop_take he _ _
        split at h
        · simp only [Option.some.injEq] at h; subst h
          simp only [Option.getD_none] at hrun
          have := hrun (some a0) es.length cap c0 c1 (by omega) (by omega) (by simp)
          refine ⟨_, this, ?_⟩
          simp only [RdA, RdD]
          right
          rw [haddr]
          refine ⟨_, b, _, ((cap : Int)).toNat - (ilo.getD 0).toNat, by simp only [hlen], fun h0 => haddr2 _ (by rw [hlen] at h0; omega), ?_, ?_, hrow ((cap : Int)).toNat (by omega)⟩
          · rw [hlen]; omega
          · intro hk
            cases hk
        · rename_i m
          split at h
          · rename_i hmh
            simp only [Option.some.injEq] at h; subst h
            simp only [Option.getD_some] at hrun
            have := hrun (some a0) es.length cap c0 c1 (by omega) (by omega) (by simpa using hmh.1)
            refine ⟨_, this, ?_⟩
            simp only [RdA, RdD]
            right
            rw [haddr]
            refine ⟨_, b, _, m.toNat - (ilo.getD 0).toNat, by simp only [hlen], fun h0 => haddr2 _ (by rw [hlen] at h0; omega), ?_, ?_, hrow m.toNat (by omega)⟩
            · rw [hlen]; omega
            · intro _
              rw [hlen]
              omega
          · cases h
      · cases h
    · -- a local object
      rename_i s sz' off n
      split at h
      · rename_i hc
        obtain ⟨rfl, c0, c1, c2, c3⟩ := hc
        have c4 : ilo.getD 0 < ihi.getD n ∨ ilo.getD 0 = 0 ∨ (ilo.getD 0 = ihi.getD n ∧ 0 < ilo.getD 0) := by omega
        simp only [Option.some.injEq] at h; subst h
        simp only [RdA] at hx
        obtain ⟨ad, cap, rfl, hb, hcap, hnc, hsp⟩ := hx
        subst c3
        simp only [Option.getD_none] at hrun
        have := hrun (some ad) n cap c0 c1 (by omega) (by omega) (by simp)
        refine ⟨_, this, ?_⟩
        simp only [RdA]
        rcases c4 with c4 | c4 | c4
        · have ha := hb (.inl (by omega))
          subst ha
          refine ⟨⟨(ρ s).1, (off + (ilo.getD 0).toNat) * sz, none⟩, ((cap : Int)).toNat - (ilo.getD 0).toNat, ?_, fun _ => rfl, ?_, ?_, rfl⟩
          · rw [if_neg (by omega)]
            simp only [Option.map_some, add_mk, Nat.add_mul]
            congr 1
            omega
          · intro h0
            have := hcap (by omega)
            omega
          · omega
        · have hz : (ilo.getD 0).toNat = 0 := by omega
          refine ⟨ad, cap, ?_, ?_, ?_, by omega, hsp⟩
          · rw [hz]
            simp only [Nat.zero_mul, Nat.sub_zero, Int.toNat_natCast]
            have : (if cap = 0 then some ad else (some ad).map fun x => x.add 0) = some ad := by split <;> simp [Addr.add]
            rw [this]
            congr 1
            omega
          · intro hh
            rw [hz, Nat.add_zero]
            apply hb
            rcases hh with hh | hh
            · left; omega
            · right; omega
          · intro h0
            exact hcap (by omega)
        · refine ⟨if ((cap : Int)).toNat = (ilo.getD 0).toNat then ad else ad.add ((ilo.getD 0).toNat * sz), ((cap : Int)).toNat - (ilo.getD 0).toNat, ?_, ?_, ?_, by omega, ?_⟩
          · congr 1
            split
            · rfl
            · rfl
            · omega
          · intro hh
            omega
          · intro h0
            omega
          · split
            · exact hsp
            · unfold Addr.add
              split <;> first | exact hsp | rfl
      · cases h
    · cases h
  · cases h

/-! ### bundles -/
theorem fill_sound (hI : Inv w0 S0 N ρ S st a w) (fs : Array Field) (places : List (Nat × Nat)) (hp : fs.toList.mapM (fun f => (P.info? f.type).map fun i => (f.offset, i.size)) = some places) :
    ∀ (parts : List (Nat × Operand)) (aps : List (Nat × Nat × AX)) (cells r : List AV) (us : List Value), mapO (cPart P fs) parts = some aps → RdAL w S ρ cells us → aFill st cells aps = some r →
      ∃ vs : List Value, Instr.fill (places.toArray[·]?) us.toArray (parts.map fun (i, x) => (i, a.eval x)) = some vs.toArray ∧ RdAL w S ρ r vs
  | [], aps, cells, r, us, hm, hl, h => by
    simp only [mapO, Option.some.injEq] at hm; subst hm
    simp only [aFill, Option.some.injEq] at h; subst h
    exact ⟨us, by simp [Instr.fill], hl⟩
  | (i, x) :: parts, aps, cells, r, us, hm, hl, h => by
    simp only [mapO] at hm
    cases hc : cPart P fs (i, x) with
    | none => simp [hc] at hm
    | some ap =>
      cases hm' : mapO (cPart P fs) parts with
      | none => simp [hc, hm'] at hm
      | some aps' =>
        simp only [hc, hm', Option.some.injEq] at hm
        subst hm
        unfold cPart at hc
        dsimp only at hc
        cases hf : fs[i]? with
        | none => simp [hf] at hc
        | some f =>
          cases hx : cAX x with
          | none => simp [hf, hx] at hc
          | some ax =>
            simp only [hf, hx, Option.map_eq_some_iff] at hc
            obtain ⟨n, hn, rfl⟩ := hc
            simp only [aFill] at h
            split at h
            · rename_i hcond
              obtain ⟨k1, k2, k3⟩ := hcond
              have hv := ax_sound hI hx
              have hcl := RdA.cells hv k3
              have hclen := RdAL.length _ _ hcl
              have hul := RdAL.length _ _ hl
              have hclen' : (a.eval x).cells.size = (ax.ev st).cells.length := by simpa using hclen
              have hplace : places[i]? = some (f.offset, n) := by
                obtain ⟨b, hb1, hb2⟩ := mapM_getA hp i f (by simpa using hf)
                unfold sizeT at hn
                simp only [Option.map_eq_some_iff] at hn
                obtain ⟨ii, hii, rfl⟩ := hn
                simp only [hii, Option.map_some, Option.some.injEq] at hb2
                rw [hb1, ← hb2]
              have hnew : RdAL w S ρ (splice cells f.offset (ax.ev st).cells) (splice us f.offset (a.eval x).cells.toList) := by
                refine RdAL.mk _ _ (by simp only [splice, List.length_append, List.length_take, List.length_drop, hclen, hul]) fun j c u hc hu => ?_
                exact splice_get (R := RdA w S ρ) _ _ f.offset _ _ (by omega) (by omega) (fun j c u h1 h2 => by
                  obtain ⟨u', hu', hr⟩ := RdAL.at _ _ hl j c h1
                  rw [h2] at hu'; simp only [Option.some.injEq] at hu'; subst hu'; exact hr) (fun j c u h1 h2 => by
                  obtain ⟨u', hu', hr⟩ := RdAL.at _ _ hcl j c h1
                  rw [h2] at hu'; simp only [Option.some.injEq] at hu'; subst hu'; exact hr) j c u hc hu
              obtain ⟨vs, h1, h2⟩ := fill_sound hI fs places hp parts aps' _ r _ hm' hnew h
              refine ⟨vs, ?_, h2⟩
              have hz : (a.eval x).cells.size = n := by omega
              have hfold : ((a.eval x).cells.zipIdx.foldl (fun cs (c, j) => cs.setIfInBounds (f.offset + j) c) us.toArray) = (splice us f.offset (a.eval x).cells.toList).toArray := by
                exact fold_splice us f.offset (a.eval x).cells (by omega)
              simp only [List.map_cons, Instr.fill, List.getElem?_toArray, hplace]
              rw [if_neg (by simp [hz]; omega), hfold]
              simpa using h1
            · cases h
where
  mapM_getA {α β : Type} {f : α → Option β} {l : List α} {r : List β} (h : l.mapM f = some r) (i : Nat) (x : α) (hx : l[i]? = some x) : ∃ b, r[i]? = some b ∧ f x = some b := by
    have h1 := mapM_some_get h i x hx
    have h2 := mapM_some_length h
    have hi : i < r.length := by rw [h2]; exact (List.getElem?_eq_some_iff.1 hx).1
    exact ⟨r[i], List.getElem?_eq_getElem hi, by rw [h1, List.getElem?_eq_getElem hi]⟩
  splice_get {α β : Type} {R : α → β → Prop} (e : List α) (f : List β) (off : Nat) (cs : List α) (ds : List β) (hl : cs.length = ds.length) (he : e.length = f.length)
      (h1 : ∀ (j : Nat) c u, e[j]? = some c → f[j]? = some u → R c u) (h2 : ∀ (j : Nat) c u, cs[j]? = some c → ds[j]? = some u → R c u) (j : Nat) (c : α) (u : β)
      (hc : (splice e off cs)[j]? = some c) (hu : (splice f off ds)[j]? = some u) : R c u := by
    unfold splice at hc hu
    simp only [List.append_assoc, List.getElem?_append, List.length_take, List.getElem?_take, List.getElem?_drop] at hc hu
    rw [he, hl] at hc
    split at hc
    · rename_i hj
      rw [if_pos hj] at hu
      rw [if_pos (by omega)] at hc hu
      exact h1 j c u hc hu
    · rename_i hj
      rw [if_neg hj] at hu
      split at hc
      · rename_i hj2
        rw [if_pos hj2] at hu
        exact h2 _ c u hc hu
      · rename_i hj2
        rw [if_neg hj2] at hu
        exact h1 _ c u hc hu
  fold_splice (us : List Value) (off : Nat) (cs : Array Value) (h : off + cs.size ≤ us.length) :
      (cs.zipIdx.foldl (fun xs (c, j) => xs.setIfInBounds (off + j) c) us.toArray) = (splice us off cs.toList).toArray := by
    rw [← Array.foldl_toList, Array.toList_zipIdx]
    have key : ∀ (l : List Value) (k : Nat) (us : List Value), off + k + l.length ≤ us.length →
        (l.zipIdx k).foldl (fun (xs : Array Value) (c, j) => xs.setIfInBounds (off + j) c) us.toArray = (us.take (off + k) ++ l ++ us.drop (off + k + l.length)).toArray := by
      intro l
      induction l with
      | nil => intro k us _; simp
      | cons v l ih =>
        intro k us hk
        simp only [List.length_cons] at hk
        simp only [List.zipIdx_cons, List.foldl_cons, List.setIfInBounds_toArray]
        rw [ih (k + 1) (us.set (off + k) v) (by simp; omega)]
        have := list_seg_step us (off + k) v l (by omega)
        rw [show off + (k + 1) = off + k + 1 by omega, this]
        simp only [List.length_cons]
    simpa [splice] using key cs.toList 0 us (by simpa using h)

theorem datL_map : ∀ (cs : List AV) (ds : List DV), datL cs = some ds → cs = ds.map .d
  | [], ds, h => by simp only [datL, Option.some.injEq] at h; subst h; rfl
  | .d x :: cs, ds, h => by
    simp only [datL, Option.map_eq_some_iff] at h
    obtain ⟨m, hm, rfl⟩ := h
    rw [List.map_cons, datL_map cs m hm]
  | .aref _ _ _ _ :: _, _, h => by simp [datL] at h
  | .ptr _ _ _ _ :: _, _, h => by simp [datL] at h
  | .func _ _ :: _, _, h => by simp [datL] at h
  | .agg _ :: _, _, h => by simp [datL] at h
  | .tuple _ :: _, _, h => by simp [datL] at h
  | .w _ _ _ :: _, _, h => by simp [datL] at h
  | .undef :: _, _, h => by simp [datL] at h

theorem pack_sound {r : List AV} {vs : List Value} (h : RdAL w S ρ r vs) : RdA w S ρ (packA r) (.agg vs.toArray) := by
  unfold packA
  split
  · rename_i ds hd
    simp only [RdA, RdD]
    exact ⟨vs, rfl, RdAL.datL r ds vs hd h⟩
  · simp only [RdA]
    exact ⟨vs, rfl, h⟩

theorem build_sound (hI : Inv w0 S0 N ρ S st a w) {t : TypeId} {fs : Array Field} {z : List DV} (ht : P.underlying t = some (.struct fs)) (hz : cZero P t = some z)
    (hall : fs.toList.all (fun f => (sizeT P f.type).isSome) = true) {parts : Array (Nat × Operand)} {aps : List (Nat × Nat × AX)} (hm : mapO (cPart P fs) parts.toList = some aps) {r : List AV}
    (h : aFill st (z.map .d) aps = some r) : ∃ u, (Instr.build t (parts.map fun (i, x) => (i, a.eval x))).run P w = .ok u w ∧ RdA w S ρ (packA r) u := by
  unfold cZero at hz
  cases hi : P.info? t with
  | none => simp [hi] at hz
  | some it =>
    cases hzz : it.zero with
    | none => simp [hi, hzz] at hz
    | some zv =>
      simp only [hi, hzz] at hz
      have hcz := cCells_sound w S hz
      have hpl : ∃ places, fs.toList.mapM (fun f => (P.info? f.type).map fun i => (f.offset, i.size)) = some places := by
        rw [List.all_eq_true] at hall
        generalize fs.toList = l at hall
        induction l with
        | nil => exact ⟨[], rfl⟩
        | cons f l ih =>
          obtain ⟨ps, hps⟩ := ih (fun x hx => hall x (by simp [hx]))
          have hf := hall f (by simp)
          unfold sizeT at hf
          simp only [Option.isSome_map] at hf
          obtain ⟨ii, hii⟩ := Option.isSome_iff_exists.1 hf
          exact ⟨(f.offset, ii.size) :: ps, by simp [List.mapM_cons, hii, hps]⟩
      obtain ⟨places, hp⟩ := hpl
      obtain ⟨vs, hv1, hv2⟩ := fill_sound hI fs places hp parts.toList aps _ r zv.cells.toList hm (RdL.map_d z _ hcz.1) h
      refine ⟨.agg vs.toArray, ?_, pack_sound hv2⟩
      refine run_build w t _ vs.toArray ?_
      unfold Program.built
      simp only [hi, ht, hzz, hp]
      simpa using hv1

theorem mkfn_sound (hI : Inv w0 S0 N ρ S st a w) {f : FuncId} {caps : Array Operand} {acs : List AX} (hm : mapO cAX caps.toList = some acs) :
    ∃ u, (Instr.makeFunc (.func f) #[] (caps.map a.eval)).run P w = .ok u w ∧
      RdA w S ρ (match datL (acs.map (·.ev st)) with | some ds => .d (.func f ds) | none => .func f (acs.map (·.ev st))) u := by
  have hl := axs_sound hI hm
  refine ⟨.func (.func f) #[] (caps.map a.eval), by simp [Instr.makeFunc], ?_⟩
  split
  · rename_i ds hd
    simp only [RdA, RdD]
    exact ⟨caps.toList.map a.eval, by rw [← Array.toList_map, Array.toArray_toList], RdAL.datL _ _ _ hd hl⟩
  · simp only [RdA]
    exact ⟨caps.toList.map a.eval, by rw [← Array.toList_map, Array.toArray_toList], hl⟩
end
end Go.Proofs.Ytjejjokdbbedlaa.Vm
