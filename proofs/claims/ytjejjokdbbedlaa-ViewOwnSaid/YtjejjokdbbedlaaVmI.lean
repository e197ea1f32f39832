/- Growing a slice; what a value reads as when it is handed to a call. No condition. -/
import Derived.Test.YtjejjokdbbedlaaVmH
namespace Go.Proofs.Ytjejjokdbbedlaa.Vm
open Go Go.RowKit
set_option linter.unusedVariables false
set_option linter.unusedSimpArgs false
set_option linter.unusedSectionVars false

theorem idx_split {p n sz : Nat} (h : p < n * sz) : p / sz < n ∧ p % sz < sz ∧ p / sz * sz + p % sz = p := by
  have hsz : 0 < sz := by
    rcases Nat.eq_zero_or_pos sz with h0 | h0
    · subst h0; simp at h
    · exact h0
  refine ⟨?_, Nat.mod_lt _ hsz, ?_⟩
  · rw [Nat.div_lt_iff_lt_mul hsz]; exact h
  · rw [Nat.mul_comm]; exact Nat.div_add_mod p sz

/-- rows of data that stand for a list of values -/
def FlatD (R : DV → Value → Prop) (sz : Nat) (es : List (List DV)) (us : List Value) : Prop :=
  us.length = es.length * sz ∧ ∀ (i j : Nat) e c, es[i]? = some e → e[j]? = some c → ∃ u, us[i * sz + j]? = some u ∧ R c u
theorem FlatD.append {R : DV → Value → Prop} {sz : Nat} {es fs : List (List DV)} {us vs : List Value} (h1 : FlatD R sz es us) (h2 : FlatD R sz fs vs) (hr : ∀ e ∈ es, e.length = sz) : FlatD R sz (es ++ fs) (us ++ vs) := by
  refine ⟨by simp [h1.1, h2.1, Nat.add_mul], fun i j e c he hc => ?_⟩
  rw [List.getElem?_append] at he
  split at he
  · rename_i hi
    obtain ⟨u, hu, hru⟩ := h1.2 i j e c he hc
    exact ⟨u, by rw [List.getElem?_append_left (List.getElem?_eq_some_iff.1 hu).1]; exact hu, hru⟩
  · rename_i hi
    obtain ⟨u, hu, hru⟩ := h2.2 _ j e c he hc
    refine ⟨u, ?_, hru⟩
    have h5 := Nat.mul_le_mul_right sz (show es.length ≤ i by omega)
    have h6 : i * sz = es.length * sz + (i - es.length) * sz := by rw [← Nat.add_mul]; congr 1; omega
    rw [List.getElem?_append_right (by rw [h1.1]; omega), h1.1, show i * sz + j - es.length * sz = (i - es.length) * sz + j by omega]
    exact hu

section
variable {P : Program} {w0 : Base} {S0 : Nat → Nat → Prop} {N : Nat} {ρ : Nat → Nat × Nat} {S : Nat → Nat → Prop} {st : St} {a : Act} {w : World}

theorem flat_of_cells {b o sz : Nat} {es : List (List DV)} (hrows : ∀ e ∈ es, e.length = sz) (h : ∀ i j, i < es.length → j < sz → ∃ u, w.cell? ⟨b, o + (i * sz + j), none⟩ = some u ∧ ∀ e c, es[i]? = some e → e[j]? = some c → RdD w S c u) :
    ∃ us : List Value, FlatD (RdD w S) sz es us ∧ (∀ (p : Nat) u, us[p]? = some u → w.cell? ((⟨b, o, none⟩ : Addr).add p) = some u) ∧
      ((∀ e ∈ es, e.all DV.one = true) → ∀ u ∈ us, u.oneCell' = true) := by
  obtain ⟨us, hl, hu⟩ := flat_exists es.length sz _ h
  refine ⟨us, ⟨hl, fun i j e c he hc => ?_⟩, fun p u hp => ?_, fun hone u hmem => ?_⟩
  · have hi := (List.getElem?_eq_some_iff.1 he).1
    have hj : j < sz := by rw [← hrows e (List.mem_of_getElem? he)]; exact (List.getElem?_eq_some_iff.1 hc).1
    obtain ⟨u, h1, h2, h3⟩ := hu i j hi hj
    exact ⟨u, h1, h3 e c he hc⟩
  · have hp' : p < es.length * sz := by rw [← hl]; exact (List.getElem?_eq_some_iff.1 hp).1
    obtain ⟨q1, q2, q3⟩ := idx_split hp'
    obtain ⟨u', h1, h2, h3⟩ := hu _ _ q1 q2
    rw [q3] at h1 h2
    rw [hp] at h1
    simp only [Option.some.injEq] at h1
    subst h1
    rw [add_mk]; exact h2
  · obtain ⟨p, hp, rfl⟩ := List.getElem_of_mem hmem
    have hp' : p < es.length * sz := by rw [← hl]; exact hp
    obtain ⟨q1, q2, q3⟩ := idx_split hp'
    obtain ⟨u', h1, h2, h3⟩ := hu _ _ q1 q2
    rw [q3, List.getElem?_eq_getElem hp] at h1
    simp only [Option.some.injEq] at h1
    rw [h1]
    have hle := hrows _ (List.getElem_mem q1)
    have hlt : p % sz < es[p / sz].length := by omega
    have := h3 es[p / sz] (es[p / sz][p % sz]) (List.getElem?_eq_getElem q1) (List.getElem?_eq_getElem hlt)
    exact RdD.one this (List.all_eq_true.1 (hone _ (List.getElem_mem q1)) _ (List.getElem_mem hlt))

theorem elems_sound (hI : Inv w0 S0 N ρ S st a w) {sz : Nat} {y : AV} {vy : Value} (hy : RdA w S ρ y vy) {news : List (List DV)} (h : elems st sz y = some news) :
    ∃ ao c, vy = .slice ao news.length c ∧ news.length ≤ c ∧ (0 < news.length → ∃ b o, ao = some ⟨b, o, none⟩ ∧
      ∀ i j, i < news.length → j < sz → ∃ u, w.cell? ⟨b, o + (i * sz + j), none⟩ = some u ∧ ∀ e c, news[i]? = some e → e[j]? = some c → RdD w S c u) := by
  unfold elems at h
  split at h
  · simp only [Option.some.injEq] at h; subst h
    simp only [RdA, RdD] at hy; subst hy
    exact ⟨none, 0, rfl, by simp, fun h => by simp at h⟩
  · rename_i k sz' es
    split at h
    · rename_i hsz
      subst hsz
      simp only [Option.some.injEq] at h; subst h
      simp only [RdA, RdD] at hy
      obtain ⟨a0, b, o, cap, rfl, ha, hc, _, he⟩ := hy
      refine ⟨some a0, cap, rfl, hc, fun hpos => ⟨b, o, by rw [ha (by omega)], fun i j hi hj => ?_⟩⟩
      obtain ⟨h1, h2⟩ := RdE.at es sz b o he i _ (List.getElem?_eq_getElem hi)
      obtain ⟨_, u, hu, hr⟩ := RdC.at _ b _ h2 j _ (List.getElem?_eq_getElem (by omega : j < es[i].length))
      refine ⟨u, by rwa [← Nat.add_assoc], fun e c he' hc' => ?_⟩
      rw [List.getElem?_eq_getElem hi] at he'
      simp only [Option.some.injEq] at he'
      subst he'
      rw [List.getElem?_eq_getElem (by omega)] at hc'
      simp only [Option.some.injEq] at hc'
      subst hc'; exact hr
    · cases h
  · rename_i k sz' es
    split at h
    · rename_i hsz
      subst hsz
      simp only [Option.some.injEq] at h; subst h
      simp only [RdA] at hy
      rcases hy.sla with ⟨rfl, rfl⟩ | hy
      · exact ⟨none, 0, rfl, by simp, fun h => by simp at h⟩
      simp only [RdD] at hy
      obtain ⟨a0, b, o, cap, rfl, ha, hc, _, he⟩ := hy
      refine ⟨some a0, cap, rfl, hc, fun hpos => ⟨b, o, by rw [ha (by omega)], fun i j hi hj => ?_⟩⟩
      obtain ⟨h1, h2⟩ := RdE.at es sz b o he i _ (List.getElem?_eq_getElem hi)
      obtain ⟨_, u, hu, hr⟩ := RdC.at _ b _ h2 j _ (List.getElem?_eq_getElem (by omega : j < es[i].length))
      refine ⟨u, by rwa [← Nat.add_assoc], fun e c he' hc' => ?_⟩
      rw [List.getElem?_eq_getElem hi] at he'
      simp only [Option.some.injEq] at he'
      subst he'
      rw [List.getElem?_eq_getElem (by omega)] at hc'
      simp only [Option.some.injEq] at hc'
      subst hc'; exact hr
    · cases h
  · rename_i s sz' off len
    split at h
    · rename_i el sz'' es hseg
      split at h
      · rename_i hc
        obtain ⟨rfl, rfl, hle⟩ := hc
        simp only [Option.some.injEq] at h
        have hlen : news.length = len := by subst h; simp; omega
        simp only [RdA] at hy
        obtain ⟨ad, cap, rfl, hb, _, hnc, _⟩ := hy
        refine ⟨some ad, cap, by rw [hlen], by omega, fun hpos => ?_⟩
        have := hb (.inl (by omega))
        subst this
        refine ⟨_, _, rfl, fun i j hi hj => ?_⟩
        obtain ⟨hrows, hro⟩ := hI.seg s _ hseg
        obtain ⟨cur, hcur, _, hcell⟩ := hro.here
        obtain ⟨u, hu, hr⟩ := hcell (off + i) j (by omega) hj
        refine ⟨u, ?_, fun e c he hc => ?_⟩
        · rw [cell_of_row w _ _ cur el (0, 0) hcur, ← hu, Nat.add_mul, Nat.add_assoc]
        · subst h
          rw [List.getElem?_take, if_pos (by omega), List.getElem?_drop] at he
          exact hr e c he hc
      · cases h
    · cases h
  · cases h

theorem run_append_nothing' (T ty e : TypeId) (hT : P.underlying T = some (.slice e)) {sz : Nat} (hs : sizeT P e = some sz) (base : Option Addr) (n c : Nat) (hn : n ≤ c) (ao : Option Addr) (c' : Nat) :
    (Builtin.append_ #[T, T] ty #[.slice base n c, .slice ao 0 c']).run P w = .ok (.slice base n c) w := by
  have hf : (Builtin.firstCells sz 0 (.slice ao 0 c')).run P w = .ok #[] w := by
    cases ao <;> simp [Builtin.firstCells, loadCells, loadCellsFrom]
  cases base with
  | none => simp [Builtin.append_, run_underlying hT, run_sizeT hs, Builtin.lenOf, hn, hf]
  | some b => simp [Builtin.append_, run_underlying hT, run_sizeT hs, Builtin.lenOf, hn, hf, storeCells]

theorem own_at (hI : Inv w0 S0 N ρ S st a w) {t q e sz k : Nat} (ht : t < N) {w1 : World} {v : Value} {xs : List Value} {es : List (List DV)} (hown : w1.ownsRow w.heap.size e sz v k xs) (hg : w.grownBy w1 none) (hk : 0 < k) (hlen : es.length = k)
    (hrows : ∀ e ∈ es, e.length = sz ∧ e.all DV.one = true) (hf : FlatD (RdD w S) sz es xs) :
    InvE w0 S0 N ((st.at_ q (.dat e sz es)).put t (.aref q sz 0 k)) (a.put (some t) v) w1 := by
  obtain ⟨h1, ⟨rfl, h0⟩ | ⟨g, cap, cur, rfl, hbase, hcur, hkc, hm, hsz, htake⟩⟩ := hown
  · omega
  · have hbel : BelowP w0.old w w1 := ⟨hg.os, hg.tape, hg.output, hg.size, fun k hk => hg.block k (Nat.lt_of_lt_of_le (w0.lt k hk) hI.below.size) (by simp)⟩
    have hgS : ∀ o, ¬ S g o := fun o ho => by have := hI.live _ _ ho; omega
    have hold : ∀ k, k < w.heap.size → k ≠ g → w1.heap[k]? = w.heap[k]? := fun k hk _ => hg.block k hk (by simp)
    have hkk : Kept w w1 S S := ⟨fun _ _ h => h, fun b p hb u hu => by
      rw [World.cell?] at hu ⊢
      rw [hold b (hI.live b p hb) (fun e => hgS p (e ▸ hb))]; exact hu⟩
    have hx := hI.at_ (t := q) (ob := .dat e sz es) (g := g) (cap := cap) (w1 := w1) hbel hold (fun s o hs => by have := (hI.seg s o hs).lt.2.1; omega) hgS (by
      refine segOk_dat (blk := g) (cap := cap) (cur := cur) (by simp) (hI.fresh hbase) hcur hsz (by omega) hm hgS hrows ?_
      intro i j e' c he' hc
      obtain ⟨u, hu, hr⟩ := hf.2 i j e' c he' hc
      refine ⟨u, ?_, RdD.kept hkk c u hr⟩
      rw [← htake, List.getElem?_take] at hu
      split at hu
      · simpa using hu
      · cases hu)
    refine ⟨_, _, hx.put ht ?_⟩
    simp only [RdA, if_true]
    exact ⟨_, _, rfl, fun _ => by simp, fun _ => rfl, hkc, rfl⟩

theorem append_sound (hI : Inv w0 S0 N ρ S st a w) {t T ty e sz bytes : Nat} (ht : t < N) (hT : P.underlying T = some (.slice e)) (hs : sizeT P e = some sz) (hby : bytesT P e = some bytes) (hsz : 0 < sz) {z : List DV}
    (hz : cZero P e = some z) (hzl : z.length = sz) {x y : AV} {vx vy : Value} (hx : RdA w S ρ x vx) (hy : RdA w S ρ y vy) {st' : St} (h : aAppend st t e sz bytes x y = some st') :
    ∃ u w1, (Builtin.append_ #[T, T] ty #[vx, vy]).run P w = .ok u w1 ∧ InvE w0 S0 N st' (a.put (some t) u) w1 := by
  unfold aAppend at h
  cases hel : elems st sz y with
  | none => simp [hel] at h
  | some news =>
    simp only [hel] at h
    obtain ⟨ao, c, rfl, hnc, hcells⟩ := elems_sound hI hy hel
    split at h
    · rename_i h0
      rw [h0]
      have key : ∀ (b : Option Addr) (n cap : Nat), vx = .slice b n cap → n ≤ cap → (∀ t want v, x ≠ .w t want v) → st' = st.put t x → ∃ u w1, (Builtin.append_ #[T, T] ty #[vx, .slice ao 0 c]).run P w = .ok u w1 ∧ InvE w0 S0 N st' (a.put (some t) u) w1 := by
        intro b n cap hv hn hnw hst
        subst hst
        refine ⟨vx, w, ?_, ρ, S, hI.put ht hx fun t want v he => absurd he (hnw t want v)⟩
        subst hv
        exact run_append_nothing' T ty e hT hs b n cap hn ao c
      split at h
      · simp only [Option.some.injEq] at h
        have hx' := hx
        simp only [RdA, RdD] at hx'
        exact key none 0 0 hx' (Nat.le_refl _) (fun _ _ _ h => by cases h) h.symm
      · simp only [Option.some.injEq] at h
        have hx' := hx
        simp only [RdA, RdD] at hx'
        obtain ⟨a0, b, o, cap, hv, _, hc, _⟩ := hx'
        exact key _ _ _ hv hc (fun _ _ _ h => by cases h) h.symm
      · simp only [Option.some.injEq] at h
        have hx' := hx
        simp only [RdA, RdD] at hx'
        rcases hx' with ⟨hv, _⟩ | ⟨a0, b, o, cap, hv, _, hc, _⟩
        · exact key _ _ _ hv (Nat.le_refl _) (fun _ _ _ h => by cases h) h.symm
        · exact key _ _ _ hv hc (fun _ _ _ h => by cases h) h.symm
      · simp only [Option.some.injEq] at h
        have hx' := hx
        simp only [RdA] at hx'
        obtain ⟨b, cap, hv, _, _, hc, _⟩ := hx'
        exact key _ _ _ hv hc (fun _ _ _ h => by cases h) h.symm
      · cases h
    · rename_i h0
      have hpos : 0 < news.length := by omega
      obtain ⟨b, o, rfl, hnew⟩ := hcells hpos
      split at h
      · rename_i hall
        have hrows : ∀ e ∈ news, e.length = sz ∧ e.all DV.one = true := by
          intro e' he'
          have := List.all_eq_true.1 hall e' he'
          simpa using this
        obtain ⟨us, hflat, hus, hone⟩ := flat_of_cells (fun e' he' => (hrows e' he').1) hnew
        have hone' := hone fun e' he' => (hrows e' he').2
        unfold cZero at hz
        cases hi : P.info? e with
        | none => simp [hi] at hz
        | some it =>
          cases hzz : it.zero with
          | none => simp [hi, hzz] at hz
          | some zv =>
            simp only [hi, hzz] at hz
            have hsize : it.size = sz := by simpa [sizeT, hi] using hs
            have hbytes : it.bytes = bytes := by simpa [bytesT, hi] using hby
            have hzs : zv.cells.size = sz := by
              have := (mapO_at hz).1
              simp only [Array.length_toList] at this
              omega
            split at h
            · -- nil
              split at h
              · rename_i hroom
                simp only [Option.some.injEq] at h
                subst h
                simp only [RdA, RdD] at hx
                subst hx
                simp only [room] at hroom
                obtain ⟨v', w1, hr, hown, hgr, hnil⟩ := run_append_own (P := P) w w.heap.size T ty e it zv sz bytes hT hi hzz hsize hbytes hzs hsz (.slice none 0 0) 0 [] (World.ownsRow_nil _ _ _ _) ⟨b, o, none⟩ news.length c us hflat.1 hus hone'
                  (by simp only [maxLen]; omega) (by simp only [Nat.zero_add]; omega) (Nat.le_refl _)
                simp only [Nat.zero_add, List.nil_append, Value.ownBlock] at hown hgr
                exact ⟨v', w1, hr, own_at hI ht hown hgr hpos rfl hrows hflat⟩
              · cases h
            · -- a full slice of data
              rename_i sz' es
              split at h
              · rename_i hroom
                obtain ⟨rfl, hb1, hb2, hes⟩ := hroom
                simp only [Option.some.injEq] at h
                subst h
                simp only [RdA, RdD] at hx
                obtain ⟨a2, b2, o2, cap, rfl, ha2, hcap, htight, he⟩ := hx
                have hcap' := htight trivial
                subst hcap'
                have hrows2 : ∀ e ∈ es, e.length = sz' ∧ e.all DV.one = true := by
                  intro e' he'
                  have := List.all_eq_true.1 hes e' he'
                  simpa using this
                obtain ⟨us2, hflat2, hus2, _⟩ := flat_of_cells (w := w) (S := S) (b := b2) (o := o2) (fun e' he' => (hrows2 e' he').1) (fun i j hi hj => by
                  obtain ⟨h1, h2⟩ := RdE.at es sz' b2 o2 he i _ (List.getElem?_eq_getElem hi)
                  obtain ⟨_, u, hu, hr⟩ := RdC.at _ b2 _ h2 j _ (List.getElem?_eq_getElem (by omega : j < es[i].length))
                  refine ⟨u, by rwa [← Nat.add_assoc], fun e c he' hc' => ?_⟩
                  rw [List.getElem?_eq_getElem hi] at he'
                  simp only [Option.some.injEq] at he'
                  subst he'
                  rw [List.getElem?_eq_getElem (by omega)] at hc'
                  simp only [Option.some.injEq] at hc'
                  subst hc'; exact hr)
                simp only [room, List.length_append] at hb1 hb2
                obtain ⟨v', w1, hr, hown, hgr⟩ := run_append_arg_grows (P := P) w T ty e it zv sz' bytes hT hi hzz hsize hbytes hzs hsz a2 es.length es.length us2 hflat2.1 (fun j u hu => by
                    have hj := (List.getElem?_eq_some_iff.1 hu).1
                    rw [hflat2.1] at hj
                    rw [ha2 (by intro h0; rw [h0] at hj; simp at hj)]
                    exact hus2 j u hu) ⟨b, o, none⟩ news.length c us hflat.1 hus
                  (by omega) (by simp only [maxLen]; omega) (by omega)
                refine ⟨v', w1, hr, ?_⟩
                rw [← List.length_append] at hown
                exact own_at hI ht hown hgr (by simp; omega) rfl (fun e' he' => by
                  rcases List.mem_append.1 he' with he' | he'
                  · exact hrows2 e' he'
                  · exact hrows e' he') (hflat2.append hflat fun e' he' => (hrows2 e' he').1)
              · cases h
            · -- a full slice of data, or none
              rename_i sz' es
              split at h
              · rename_i hroom
                obtain ⟨rfl, hb1, hb2, hes⟩ := hroom
                simp only [Option.some.injEq] at h
                subst h
                simp only [RdA] at hx
                rcases hx.sla with ⟨rfl, rfl⟩ | hx
                · simp only [List.nil_append, room] at hb1 hb2 ⊢
                  obtain ⟨v', w1, hr, hown, hgr, hnil⟩ := run_append_own (P := P) w w.heap.size T ty e it zv sz' bytes hT hi hzz hsize hbytes hzs hsz (.slice none 0 0) 0 [] (World.ownsRow_nil _ _ _ _) ⟨b, o, none⟩ news.length c us hflat.1 hus hone'
                    (by simp only [maxLen]; omega) (by simp only [Nat.zero_add]; omega) (Nat.le_refl _)
                  simp only [Nat.zero_add, List.nil_append, Value.ownBlock] at hown hgr
                  exact ⟨v', w1, hr, own_at hI ht hown hgr hpos rfl hrows hflat⟩
                simp only [if_true, RdD] at hx
                obtain ⟨a2, b2, o2, cap, rfl, ha2, hcap, htight, he⟩ := hx
                have hcap' := htight trivial
                subst hcap'
                have hrows2 : ∀ e ∈ es, e.length = sz' ∧ e.all DV.one = true := by
                  intro e' he'
                  have := List.all_eq_true.1 hes e' he'
                  simpa using this
                obtain ⟨us2, hflat2, hus2, _⟩ := flat_of_cells (w := w) (S := S) (b := b2) (o := o2) (fun e' he' => (hrows2 e' he').1) (fun i j hi hj => by
                  obtain ⟨h1, h2⟩ := RdE.at es sz' b2 o2 he i _ (List.getElem?_eq_getElem hi)
                  obtain ⟨_, u, hu, hr⟩ := RdC.at _ b2 _ h2 j _ (List.getElem?_eq_getElem (by omega : j < es[i].length))
                  refine ⟨u, by rwa [← Nat.add_assoc], fun e c he' hc' => ?_⟩
                  rw [List.getElem?_eq_getElem hi] at he'
                  simp only [Option.some.injEq] at he'
                  subst he'
                  rw [List.getElem?_eq_getElem (by omega)] at hc'
                  simp only [Option.some.injEq] at hc'
                  subst hc'; exact hr)
                simp only [room, List.length_append] at hb1 hb2
                obtain ⟨v', w1, hr, hown, hgr⟩ := run_append_arg_grows (P := P) w T ty e it zv sz' bytes hT hi hzz hsize hbytes hzs hsz a2 es.length es.length us2 hflat2.1 (fun j u hu => by
                    have hj := (List.getElem?_eq_some_iff.1 hu).1
                    rw [hflat2.1] at hj
                    rw [ha2 (by intro h0; rw [h0] at hj; simp at hj)]
                    exact hus2 j u hu) ⟨b, o, none⟩ news.length c us hflat.1 hus
                  (by omega) (by simp only [maxLen]; omega) (by omega)
                refine ⟨v', w1, hr, ?_⟩
                rw [← List.length_append] at hown
                exact own_at hI ht hown hgr (by simp; omega) rfl (fun e' he' => by
                  rcases List.mem_append.1 he' with he' | he'
                  · exact hrows2 e' he'
                  · exact hrows e' he') (hflat2.append hflat fun e' he' => (hrows2 e' he').1)
              · cases h
            · -- an object of the call's own
              rename_i s sz' off len
              split at h
              · rename_i el' sz'' es hseg
                split at h
                · rename_i hroom
                  obtain ⟨rfl, rfl, rfl, rfl, rfl, hb1, hb2⟩ := hroom
                  simp only [Option.some.injEq] at h
                  subst h
                  simp only [RdA] at hx
                  obtain ⟨ad, cap, rfl, hb, hcap, hlc, _⟩ := hx
                  have hcap' := hcap trivial
                  have had := hb (.inr trivial)
                  subst had
                  obtain ⟨hrows2, hro⟩ := hI.seg s _ hseg
                  obtain ⟨cur, hcur, hcsz, hcell⟩ := hro.here
                  simp only [Nat.zero_mul] at *
                  obtain ⟨us2, hflat2, hus2, hone2⟩ := flat_of_cells (w := w) (S := S) (b := (ρ s).1) (o := 0) (fun e' he' => (hrows2 e' he').1) (fun i j hi hj => by
                    obtain ⟨u, hu, hr⟩ := hcell i j hi hj
                    exact ⟨u, by rw [cell_of_row w _ _ cur _ (0, 0) hcur, Nat.zero_add]; exact hu, hr⟩)
                  have hrowsA : ∀ e ∈ es ++ news, e.length = sz'' ∧ e.all DV.one = true := fun e' he' => by
                    rcases List.mem_append.1 he' with he' | he'
                    · exact hrows2 e' he'
                    · exact hrows e' he'
                  have hflatA := hflat2.append hflat fun e' he' => (hrows2 e' he').1
                  simp only [room, List.length_append] at hb1 hb2
                  by_cases hfit : es.length + news.length ≤ cap
                  · -- in place
                    have htake : cur.toList.take (es.length * sz'') = us2 := by
                      apply List.ext_getElem?
                      intro p
                      rw [List.getElem?_take]
                      split
                      · rename_i hp
                        obtain ⟨q1, q2, q3⟩ := idx_split hp
                        have hp2 : p < us2.length := by rw [hflat2.1]; exact hp
                        have := hus2 p _ (List.getElem?_eq_getElem hp2)
                        rw [add_mk, Nat.zero_add, cell_of_row w _ _ cur _ (0, 0) hcur] at this
                        rw [List.getElem?_eq_getElem hp2, ← this]
                        simp
                      · rename_i hp
                        rw [List.getElem?_eq_none (by rw [hflat2.1]; omega)]
                    have hbig : es.length * it.size + us.length ≤ cur.size := by
                      rw [hsize, hflat.1, hcsz, ← hcap', ← Nat.add_mul]
                      exact Nat.mul_le_mul_right _ hfit
                    have hr := run_append_room (P := P) w T ty el' it hT hi (ρ s).1 es.length cap cur hcur ⟨b, o, none⟩ news.length c us (by rw [hsize]; exact hflat.1) hus hone' hfit hbig
                    rw [hsize] at hr hbig
                    rw [htake] at hr
                    refine ⟨_, _, hr, ?_⟩
                    have hxx := (hI.drop s).at_ (t := alt s t) (ob := .dat el' sz'' (es ++ news)) (g := (ρ s).1) (cap := cap) (w1 := w.setRow (ρ s).1 (us2 ++ us ++ cur.toList.drop (es.length * sz'' + us.length)).toArray)
                      ⟨rfl, rfl, rfl, by simp, fun k hk => setRow_other w _ k _ (fun e => hro.base (e ▸ hk))⟩ (fun k hk hkg => setRow_other w _ k _ hkg) (fun n o' hn he => by
                        simp only [St.drop] at hn
                        split at hn
                        · cases hn
                        · rename_i hne
                          exact hne (hI.apart n s o' _ hn hseg he)) hro.apart (by
                        refine segOk_dat (blk := (ρ s).1) (cap := cap) (cur := (us2 ++ us ++ cur.toList.drop (es.length * sz'' + us.length)).toArray) (by simp) hro.base (setRow_heap w _ cur _ _ _ hcur) ?_ (by simpa using hfit) (by rw [hcap']; exact hro.len) hro.apart hrowsA ?_
                        · simp only [List.size_toArray, List.length_append, List.length_drop, Array.length_toList, hflat2.1]
                          rw [hcap', ← hcsz]
                          omega
                        · intro i j e' c' he' hc'
                          obtain ⟨u, hu, hr'⟩ := hflatA.2 i j e' c' he' hc'
                          refine ⟨u, ?_, RdD.kept ⟨fun _ _ h => h, fun b' p hb' u' hu' => ?_⟩ c' u hr'⟩
                          · rw [List.getElem?_toArray, List.getElem?_append_left (List.getElem?_eq_some_iff.1 hu).1]
                            exact hu
                          · rw [World.cell?] at hu' ⊢
                            rw [setRow_other w _ b' _ fun e => hro.apart p (by rw [← e]; exact hb')]; exact hu')
                    refine ⟨_, _, hxx.put ht ?_⟩
                    simp only [RdA, if_true]
                    exact ⟨⟨(ρ s).1, 0, none⟩, cap, by simp, fun _ => by simp, fun _ => rfl, by simpa using hfit, rfl⟩
                  · obtain ⟨v', w1, hr, hown, hgr⟩ := run_append_arg_grows (P := P) w T ty el' it zv sz'' bytes hT hi hzz hsize hbytes hzs hsz ⟨(ρ s).1, 0, none⟩ es.length cap us2 hflat2.1 hus2 ⟨b, o, none⟩ news.length c us hflat.1 hus
                      (by omega) (by simp only [maxLen]; omega) (by omega)
                    refine ⟨v', w1, hr, ?_⟩
                    rw [← List.length_append] at hown
                    exact own_at (hI.drop s) ht hown hgr (by simp; omega) rfl hrowsA hflatA
                · cases h
              · cases h
            · cases h
      · cases h
end
end Go.Proofs.Ytjejjokdbbedlaa.Vm
