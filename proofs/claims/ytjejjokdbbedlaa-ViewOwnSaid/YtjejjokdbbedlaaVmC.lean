/- What it means that a value of the pure machine stands for one of the model's; what a change of the world leaves of it. No condition. -/
import Derived.Test.YtjejjokdbbedlaaVmB
namespace Go.Proofs.Ytjejjokdbbedlaa.Vm
open Go Go.RowKit
set_option linter.unusedVariables false
set_option linter.unusedSimpArgs false

mutual
def RdD (w : World) (S : Nat → Nat → Prop) : DV → Value → Prop
  | .int k n, v => v = .int k n
  | .bool b, v => v = .bool b
  | .nilsl, v => v = .slice none 0 0
  | .sl k sz es, v => ∃ (a : Addr) (b o cap : Nat), v = .slice (some a) es.length cap ∧ (es.length ≠ 0 → a = ⟨b, o, none⟩) ∧ es.length ≤ cap ∧ (k = .tight → cap = es.length) ∧ RdE w S es sz b o
  | .sla k sz es, v => (v = .slice none 0 0 ∧ es = []) ∨ ∃ (a : Addr) (b o cap : Nat), v = .slice (some a) es.length cap ∧ (es.length ≠ 0 → a = ⟨b, o, none⟩) ∧ es.length ≤ cap ∧ (k = true → cap = es.length) ∧ RdE w S es sz b o
  | .rptr e off, v => ∃ b o, v = .pointer (some ⟨b, o + off, none⟩) ∧ RdC w S e b o
  | .nilptr, v => v = .pointer none
  | .func f cs, v => ∃ vs : List Value, v = .func (.func f) #[] vs.toArray ∧ RdL w S cs vs
  | .nilfunc, v => v = .nilFunc
  | .agg cs, v => ∃ vs : List Value, v = .agg vs.toArray ∧ RdL w S cs vs
  | .tuple cs, v => ∃ vs : List Value, v = .tuple vs.toArray ∧ RdL w S cs vs
  | .mv _ _ _, _ => False
def RdC (w : World) (S : Nat → Nat → Prop) : List DV → Nat → Nat → Prop
  | [], _, _ => True
  | c :: cs, b, o => (S b o ∧ ∃ u, w.cell? ⟨b, o, none⟩ = some u ∧ RdD w S c u) ∧ RdC w S cs b (o + 1)
def RdE (w : World) (S : Nat → Nat → Prop) : List (List DV) → Nat → Nat → Nat → Prop
  | [], _, _, _ => True
  | e :: es, sz, b, o => e.length = sz ∧ RdC w S e b o ∧ RdE w S es sz b (o + sz)
def RdL (w : World) (S : Nat → Nat → Prop) : List DV → List Value → Prop
  | [], vs => vs = []
  | c :: cs, vs => ∃ u us, vs = u :: us ∧ RdD w S c u ∧ RdL w S cs us
end

mutual
def RdA (w : World) (S : Nat → Nat → Prop) (ρ : Nat → Nat × Nat) : AV → Value → Prop
  | .d x, v => RdD w S x v
  | .aref s sz off n, v => ∃ a cap, v = .slice (some a) n cap ∧ (n ≠ 0 ∨ off = 0 → a = ⟨(ρ s).1, off * sz, none⟩) ∧ (off = 0 → cap = (ρ s).2) ∧ n ≤ cap ∧ a.spot = none
  | .ptr s sz i off, v => v = .pointer (some ⟨(ρ s).1, i * sz + off, none⟩)
  | .func f cs, v => ∃ vs : List Value, v = .func (.func f) #[] vs.toArray ∧ RdAL w S ρ cs vs
  | .agg cs, v => ∃ vs : List Value, v = .agg vs.toArray ∧ RdAL w S ρ cs vs
  | .tuple cs, v => ∃ vs : List Value, v = .tuple vs.toArray ∧ RdAL w S ρ cs vs
  | .w _ _ _, _ => True
  | .undef, _ => True
def RdAL (w : World) (S : Nat → Nat → Prop) (ρ : Nat → Nat × Nat) : List AV → List Value → Prop
  | [], vs => vs = []
  | c :: cs, vs => ∃ u us, vs = u :: us ∧ RdA w S ρ c u ∧ RdAL w S ρ cs us
end

/-! ### what is kept -/
structure Kept (w w' : World) (S S' : Nat → Nat → Prop) : Prop where
  sub : ∀ b o, S b o → S' b o
  cell : ∀ b o, S b o → ∀ u, w.cell? ⟨b, o, none⟩ = some u → w'.cell? ⟨b, o, none⟩ = some u

mutual
theorem RdD.kept {w w' : World} {S S' : Nat → Nat → Prop} (h : Kept w w' S S') : ∀ (x : DV) (v : Value), RdD w S x v → RdD w' S' x v
  | .mv _ _ _, _, hx => by simp only [RdD] at hx
  | .int _ _, _, hx => by simpa only [RdD] using hx
  | .bool _, _, hx => by simpa only [RdD] using hx
  | .nilsl, _, hx => by simpa only [RdD] using hx
  | .nilptr, _, hx => by simpa only [RdD] using hx
  | .nilfunc, _, hx => by simpa only [RdD] using hx
  | .sl k sz es, v, hx => by
    simp only [RdD] at hx ⊢
    obtain ⟨a, b, o, cap, h1, h0, h2, h3, h4⟩ := hx
    exact ⟨a, b, o, cap, h1, h0, h2, h3, RdE.kept h es sz b o h4⟩
  | .sla k sz es, v, hx => by
    simp only [RdD] at hx ⊢
    rcases hx with hx | ⟨a, b, o, cap, h1, h0, h2, h3, h4⟩
    · exact .inl hx
    · exact .inr ⟨a, b, o, cap, h1, h0, h2, h3, RdE.kept h es sz b o h4⟩
  | .rptr e off, v, hx => by
    simp only [RdD] at hx ⊢
    obtain ⟨b, o, h1, h2⟩ := hx
    exact ⟨b, o, h1, RdC.kept h e b o h2⟩
  | .func f cs, v, hx => by
    simp only [RdD] at hx ⊢
    obtain ⟨vs, h1, h2⟩ := hx
    exact ⟨vs, h1, RdL.kept h cs vs h2⟩
  | .agg cs, v, hx => by
    simp only [RdD] at hx ⊢
    obtain ⟨vs, h1, h2⟩ := hx
    exact ⟨vs, h1, RdL.kept h cs vs h2⟩
  | .tuple cs, v, hx => by
    simp only [RdD] at hx ⊢
    obtain ⟨vs, h1, h2⟩ := hx
    exact ⟨vs, h1, RdL.kept h cs vs h2⟩
theorem RdC.kept {w w' : World} {S S' : Nat → Nat → Prop} (h : Kept w w' S S') : ∀ (cs : List DV) (b o : Nat), RdC w S cs b o → RdC w' S' cs b o
  | [], _, _, _ => by simp only [RdC]
  | c :: cs, b, o, hx => by
    simp only [RdC] at hx ⊢
    obtain ⟨⟨h1, u, h2, h3⟩, h4⟩ := hx
    exact ⟨⟨h.sub _ _ h1, u, h.cell _ _ h1 u h2, RdD.kept h c u h3⟩, RdC.kept h cs b (o + 1) h4⟩
theorem RdE.kept {w w' : World} {S S' : Nat → Nat → Prop} (h : Kept w w' S S') : ∀ (es : List (List DV)) (sz b o : Nat), RdE w S es sz b o → RdE w' S' es sz b o
  | [], _, _, _, _ => by simp only [RdE]
  | e :: es, sz, b, o, hx => by
    simp only [RdE] at hx ⊢
    obtain ⟨h1, h2, h3⟩ := hx
    exact ⟨h1, RdC.kept h e b o h2, RdE.kept h es sz b (o + sz) h3⟩
theorem RdL.kept {w w' : World} {S S' : Nat → Nat → Prop} (h : Kept w w' S S') : ∀ (cs : List DV) (vs : List Value), RdL w S cs vs → RdL w' S' cs vs
  | [], vs, hx => by simpa only [RdL] using hx
  | c :: cs, vs, hx => by
    simp only [RdL] at hx ⊢
    obtain ⟨u, us, h1, h2, h3⟩ := hx
    exact ⟨u, us, h1, RdD.kept h c u h2, RdL.kept h cs us h3⟩
end

mutual
theorem RdA.kept {w w' : World} {S S' : Nat → Nat → Prop} {ρ : Nat → Nat × Nat} (h : Kept w w' S S') : ∀ (x : AV) (v : Value), RdA w S ρ x v → RdA w' S' ρ x v
  | .d x, v, hx => by simp only [RdA] at hx ⊢; exact RdD.kept h x v hx
  | .aref _ _ _ _, _, hx => by simpa only [RdA] using hx
  | .ptr _ _ _ _, _, hx => by simpa only [RdA] using hx
  | .w _ _ _, _, _ => by simp only [RdA]
  | .undef, _, _ => by simp only [RdA]
  | .func f cs, v, hx => by
    simp only [RdA] at hx ⊢
    obtain ⟨vs, h1, h2⟩ := hx
    exact ⟨vs, h1, RdAL.kept h cs vs h2⟩
  | .agg cs, v, hx => by
    simp only [RdA] at hx ⊢
    obtain ⟨vs, h1, h2⟩ := hx
    exact ⟨vs, h1, RdAL.kept h cs vs h2⟩
  | .tuple cs, v, hx => by
    simp only [RdA] at hx ⊢
    obtain ⟨vs, h1, h2⟩ := hx
    exact ⟨vs, h1, RdAL.kept h cs vs h2⟩
theorem RdAL.kept {w w' : World} {S S' : Nat → Nat → Prop} {ρ : Nat → Nat × Nat} (h : Kept w w' S S') : ∀ (cs : List AV) (vs : List Value), RdAL w S ρ cs vs → RdAL w' S' ρ cs vs
  | [], vs, hx => by simpa only [RdAL] using hx
  | c :: cs, vs, hx => by
    simp only [RdAL] at hx ⊢
    obtain ⟨u, us, h1, h2, h3⟩ := hx
    exact ⟨u, us, h1, RdA.kept h c u h2, RdAL.kept h cs us h3⟩
end

/-! a site that a value does not name may lie anywhere -/
mutual
theorem RdA.site {w : World} {S : Nat → Nat → Prop} {ρ ρ' : Nat → Nat × Nat} (s : Nat) (hρ : ∀ n, n ≠ s → ρ' n = ρ n) : ∀ (x : AV) (v : Value), x.has s = false → RdA w S ρ x v → RdA w S ρ' x v
  | .d x, v, _, hx => by simpa only [RdA] using hx
  | .aref s' _ _ _, _, hs, hx => by
    simp only [AV.has, beq_eq_false_iff_ne] at hs
    simp only [RdA] at hx ⊢
    rw [hρ s' hs]; exact hx
  | .ptr s' _ _ _, _, hs, hx => by
    simp only [AV.has, beq_eq_false_iff_ne] at hs
    simp only [RdA] at hx ⊢
    rw [hρ s' hs]; exact hx
  | .w _ _ _, _, _, _ => by simp only [RdA]
  | .undef, _, _, _ => by simp only [RdA]
  | .func f cs, v, hs, hx => by
    simp only [AV.has] at hs
    simp only [RdA] at hx ⊢
    obtain ⟨vs, h1, h2⟩ := hx
    exact ⟨vs, h1, RdAL.site s hρ cs vs hs h2⟩
  | .agg cs, v, hs, hx => by
    simp only [AV.has] at hs
    simp only [RdA] at hx ⊢
    obtain ⟨vs, h1, h2⟩ := hx
    exact ⟨vs, h1, RdAL.site s hρ cs vs hs h2⟩
  | .tuple cs, v, hs, hx => by
    simp only [AV.has] at hs
    simp only [RdA] at hx ⊢
    obtain ⟨vs, h1, h2⟩ := hx
    exact ⟨vs, h1, RdAL.site s hρ cs vs hs h2⟩
theorem RdAL.site {w : World} {S : Nat → Nat → Prop} {ρ ρ' : Nat → Nat × Nat} (s : Nat) (hρ : ∀ n, n ≠ s → ρ' n = ρ n) : ∀ (cs : List AV) (vs : List Value), hasL s cs = false → RdAL w S ρ cs vs → RdAL w S ρ' cs vs
  | [], vs, _, hx => by simpa only [RdAL] using hx
  | c :: cs, vs, hs, hx => by
    simp only [hasL, Bool.or_eq_false_iff] at hs
    simp only [RdAL] at hx ⊢
    obtain ⟨u, us, h1, h2, h3⟩ := hx
    exact ⟨u, us, h1, RdA.site s hρ c u hs.1 h2, RdAL.site s hρ cs us hs.2 h3⟩
end

theorem RdA.kill {w : World} {S : Nat → Nat → Prop} {ρ ρ' : Nat → Nat × Nat} (s : Nat) (hρ : ∀ n, n ≠ s → ρ' n = ρ n) (x : AV) (v : Value) (h : RdA w S ρ x v) : RdA w S ρ' (x.kill s) v := by
  unfold AV.kill
  cases hs : x.has s
  · exact RdA.site s hρ x v hs h
  · simp only [if_true, RdA]

/-! ### rows of values -/
theorem RdL.map_d {w : World} {S : Nat → Nat → Prop} {ρ : Nat → Nat × Nat} : ∀ (cs : List DV) (vs : List Value), RdL w S cs vs → RdAL w S ρ (cs.map .d) vs
  | [], vs, h => by simpa only [RdL, List.map_nil, RdAL] using h
  | c :: cs, vs, h => by
    simp only [RdL] at h
    obtain ⟨u, us, h1, h2, h3⟩ := h
    simp only [List.map_cons, RdAL, RdA]
    exact ⟨u, us, h1, h2, RdL.map_d cs us h3⟩
theorem RdAL.datL {w : World} {S : Nat → Nat → Prop} {ρ : Nat → Nat × Nat} : ∀ (cs : List AV) (ds : List DV) (vs : List Value), datL cs = some ds → RdAL w S ρ cs vs → RdL w S ds vs
  | [], ds, vs, hd, h => by
    simp only [Vm.datL, Option.some.injEq] at hd
    subst hd
    simpa only [RdAL, RdL] using h
  | .d x :: cs, ds, vs, hd, h => by
    simp only [Vm.datL, Option.map_eq_some_iff] at hd
    obtain ⟨m, hm, rfl⟩ := hd
    simp only [RdAL, RdA] at h
    obtain ⟨u, us, h1, h2, h3⟩ := h
    simp only [RdL]
    exact ⟨u, us, h1, h2, RdAL.datL cs m us hm h3⟩
  | .aref _ _ _ _ :: _, _, _, hd, _ => by simp [Vm.datL] at hd
  | .ptr _ _ _ _ :: _, _, _, hd, _ => by simp [Vm.datL] at hd
  | .func _ _ :: _, _, _, hd, _ => by simp [Vm.datL] at hd
  | .agg _ :: _, _, _, hd, _ => by simp [Vm.datL] at hd
  | .tuple _ :: _, _, _, hd, _ => by simp [Vm.datL] at hd
  | .w _ _ _ :: _, _, _, hd, _ => by simp [Vm.datL] at hd
  | .undef :: _, _, _, hd, _ => by simp [Vm.datL] at hd
theorem RdAL.length {w : World} {S : Nat → Nat → Prop} {ρ : Nat → Nat × Nat} : ∀ (cs : List AV) (vs : List Value), RdAL w S ρ cs vs → vs.length = cs.length
  | [], vs, h => by simp only [RdAL] at h; subst h; rfl
  | c :: cs, vs, h => by
    simp only [RdAL] at h
    obtain ⟨u, us, rfl, _, h3⟩ := h
    simp [RdAL.length cs us h3]
theorem RdL.length {w : World} {S : Nat → Nat → Prop} : ∀ (cs : List DV) (vs : List Value), RdL w S cs vs → vs.length = cs.length
  | [], vs, h => by simp only [RdL] at h; subst h; rfl
  | c :: cs, vs, h => by
    simp only [RdL] at h
    obtain ⟨u, us, rfl, _, h3⟩ := h
    simp [RdL.length cs us h3]
theorem RdAL.at {w : World} {S : Nat → Nat → Prop} {ρ : Nat → Nat × Nat} : ∀ (cs : List AV) (vs : List Value), RdAL w S ρ cs vs → ∀ (i : Nat) (c : _), cs[i]? = some c → ∃ u, vs[i]? = some u ∧ RdA w S ρ c u
  | [], vs, h, i, c, hc => by simp at hc
  | c :: cs, vs, h, i, c', hc => by
    simp only [RdAL] at h
    obtain ⟨u, us, rfl, h2, h3⟩ := h
    cases i with
    | zero => simp at hc; subst hc; exact ⟨u, by simp, h2⟩
    | succ i => simp at hc ⊢; exact RdAL.at cs us h3 i c' hc
theorem RdL.at {w : World} {S : Nat → Nat → Prop} : ∀ (cs : List DV) (vs : List Value), RdL w S cs vs → ∀ (i : Nat) (c : _), cs[i]? = some c → ∃ u, vs[i]? = some u ∧ RdD w S c u
  | [], vs, h, i, c, hc => by simp at hc
  | c :: cs, vs, h, i, c', hc => by
    simp only [RdL] at h
    obtain ⟨u, us, rfl, h2, h3⟩ := h
    cases i with
    | zero => simp at hc; subst hc; exact ⟨u, by simp, h2⟩
    | succ i => simp at hc ⊢; exact RdL.at cs us h3 i c' hc
theorem RdAL.mk {w : World} {S : Nat → Nat → Prop} {ρ : Nat → Nat × Nat} : ∀ (cs : List AV) (vs : List Value), vs.length = cs.length → (∀ (i : Nat) (c : _) (u : _), cs[i]? = some c → vs[i]? = some u → RdA w S ρ c u) → RdAL w S ρ cs vs
  | [], vs, hl, h => by simp at hl; subst hl; simp only [RdAL]
  | c :: cs, [], hl, h => by simp at hl
  | c :: cs, u :: us, hl, h => by
    simp only [RdAL]
    refine ⟨u, us, rfl, h 0 c u rfl rfl, RdAL.mk cs us (by simpa using hl) fun i c u h1 h2 => h (i + 1) c u (by simpa using h1) (by simpa using h2)⟩
theorem RdL.mk {w : World} {S : Nat → Nat → Prop} : ∀ (cs : List DV) (vs : List Value), vs.length = cs.length → (∀ (i : Nat) (c : _) (u : _), cs[i]? = some c → vs[i]? = some u → RdD w S c u) → RdL w S cs vs
  | [], vs, hl, h => by simp at hl; subst hl; simp only [RdL]
  | c :: cs, [], hl, h => by simp at hl
  | c :: cs, u :: us, hl, h => by
    simp only [RdL]
    refine ⟨u, us, rfl, h 0 c u rfl rfl, RdL.mk cs us (by simpa using hl) fun i c u h1 h2 => h (i + 1) c u (by simpa using h1) (by simpa using h2)⟩

/-- cells read one by one -/
theorem RdC.at {w : World} {S : Nat → Nat → Prop} : ∀ (cs : List DV) (b o : Nat), RdC w S cs b o → ∀ (i : Nat) (c : _), cs[i]? = some c → S b (o + i) ∧ ∃ u, w.cell? ⟨b, o + i, none⟩ = some u ∧ RdD w S c u
  | [], b, o, h, i, c, hc => by simp at hc
  | c :: cs, b, o, h, i, c', hc => by
    simp only [RdC] at h
    obtain ⟨h1, h2⟩ := h
    cases i with
    | zero => simp at hc; subst hc; simpa using h1
    | succ i =>
      simp at hc
      have := RdC.at cs b (o + 1) h2 i c' hc
      rwa [show o + 1 + i = o + (i + 1) by omega] at this
theorem RdC.mk {w : World} {S : Nat → Nat → Prop} : ∀ (cs : List DV) (b o : Nat), (∀ (i : Nat) (c : _), cs[i]? = some c → S b (o + i) ∧ ∃ u, w.cell? ⟨b, o + i, none⟩ = some u ∧ RdD w S c u) → RdC w S cs b o
  | [], b, o, h => by simp only [RdC]
  | c :: cs, b, o, h => by
    simp only [RdC]
    refine ⟨by simpa using h 0 c rfl, RdC.mk cs b (o + 1) fun i c' hc => ?_⟩
    have := h (i + 1) c' (by simpa using hc)
    rwa [show o + (i + 1) = o + 1 + i by omega] at this
theorem RdE.at {w : World} {S : Nat → Nat → Prop} : ∀ (es : List (List DV)) (sz b o : Nat), RdE w S es sz b o → ∀ (i : Nat) (e : _), es[i]? = some e → e.length = sz ∧ RdC w S e b (o + i * sz)
  | [], sz, b, o, h, i, e, he => by simp at he
  | e :: es, sz, b, o, h, i, e', he => by
    simp only [RdE] at h
    obtain ⟨h1, h2, h3⟩ := h
    cases i with
    | zero => simp at he; subst he; simpa using ⟨h1, h2⟩
    | succ i =>
      simp at he
      have := RdE.at es sz b (o + sz) h3 i e' he
      rwa [show o + sz + i * sz = o + (i + 1) * sz by rw [Nat.add_mul]; omega] at this
theorem RdE.mk {w : World} {S : Nat → Nat → Prop} : ∀ (es : List (List DV)) (sz b o : Nat), (∀ (i : Nat) (e : _), es[i]? = some e → e.length = sz ∧ RdC w S e b (o + i * sz)) → RdE w S es sz b o
  | [], sz, b, o, h => by simp only [RdE]
  | e :: es, sz, b, o, h => by
    simp only [RdE]
    have h0 := h 0 e rfl
    refine ⟨h0.1, by simpa using h0.2, RdE.mk es sz b (o + sz) fun i e' he => ?_⟩
    have := h (i + 1) e' (by simpa using he)
    rwa [show o + (i + 1) * sz = o + sz + i * sz by rw [Nat.add_mul]; omega] at this

/-! ### cells and one-cell values -/
/-- a slice that may be none is one of data, or none -/
theorem RdD.sla {w : World} {S : Nat → Nat → Prop} {k : Bool} {sz : Nat} {es : List (List DV)} {v : Value} (h : RdD w S (.sla k sz es) v) : (v = .slice none 0 0 ∧ es = []) ∨ RdD w S (.sl (if k then .tight else .ro) sz es) v := by
  simp only [RdD] at h ⊢
  rcases h with h | ⟨a, b, o, cap, h1, h0, h2, h3, h4⟩
  · exact .inl h
  · refine .inr ⟨a, b, o, cap, h1, h0, h2, fun hk => h3 ?_, h4⟩
    cases k <;> simp_all
theorem RdD.of_sl {w : World} {S : Nat → Nat → Prop} {k : Bool} {sz : Nat} {es : List (List DV)} {v : Value} {q : SK} (h : RdD w S (.sl q sz es) v) (hq : k = true → q = .tight) : RdD w S (.sla k sz es) v := by
  simp only [RdD] at h ⊢
  obtain ⟨a, b, o, cap, h1, h0, h2, h3, h4⟩ := h
  exact .inr ⟨a, b, o, cap, h1, h0, h2, fun hk => h3 (hq hk), h4⟩
theorem RdD.of_nil {w : World} {S : Nat → Nat → Prop} {k : Bool} {sz : Nat} {v : Value} (h : RdD w S .nilsl v) : RdD w S (.sla k sz []) v := by
  simp only [RdD] at h ⊢
  exact .inl ⟨h, trivial⟩
theorem RdD.one {w : World} {S : Nat → Nat → Prop} {x : DV} {v : Value} (h : RdD w S x v) (h1 : x.one = true) : v.oneCell' = true := by
  cases x <;> simp only [RdD] at h <;> simp only [DV.one, Bool.false_eq_true] at h1
  all_goals first
    | (subst h; rfl)
    | (obtain ⟨a, b, o, cap, rfl, _⟩ := h; rfl)
    | (rcases h with ⟨rfl, _⟩ | ⟨a, b, o, cap, rfl, _⟩ <;> rfl)
    | (obtain ⟨b, o, rfl, _⟩ := h; rfl)
    | (obtain ⟨vs, rfl, _⟩ := h; rfl)
theorem RdA.one {w : World} {S : Nat → Nat → Prop} {ρ : Nat → Nat × Nat} {x : AV} {v : Value} (h : RdA w S ρ x v) (h1 : x.one = true) : v.oneCell' = true := by
  cases x <;> simp only [RdA] at h <;> simp only [AV.one, Bool.false_eq_true] at h1
  all_goals first
    | exact RdD.one h h1
    | (subst h; rfl)
    | (obtain ⟨a, cap, rfl, _⟩ := h; rfl)
    | (obtain ⟨vs, rfl, _⟩ := h; rfl)
theorem RdA.cells {w : World} {S : Nat → Nat → Prop} {ρ : Nat → Nat × Nat} {x : AV} {v : Value} (h : RdA w S ρ x v) (h1 : x.cells.all AV.one = true) : RdAL w S ρ x.cells v.cells.toList := by
  cases x with
  | d x =>
    cases x with
    | agg cs =>
      simp only [RdA, RdD] at h
      obtain ⟨vs, rfl, h⟩ := h
      simpa only [AV.cells, Value.cells] using RdL.map_d cs vs h
    | _ =>
      simp only [AV.cells, List.all_cons, List.all_nil, Bool.and_true] at h1 ⊢
      have ho := RdA.one h h1
      simp only [RdAL]
      refine ⟨v, [], ?_, h, rfl⟩
      cases v <;> simp_all [Value.cells, Value.oneCell']
  | agg cs =>
    simp only [RdA] at h
    obtain ⟨vs, rfl, h⟩ := h
    simpa only [AV.cells, Value.cells] using h
  | w => simp [AV.cells, AV.one] at h1
  | undef => simp [AV.cells, AV.one] at h1
  | tuple => simp [AV.cells, AV.one] at h1
  | _ =>
    simp only [AV.cells, List.all_cons, List.all_nil, Bool.and_true] at h1 ⊢
    have ho := RdA.one h h1
    simp only [RdAL]
    refine ⟨v, [], ?_, h, rfl⟩
    cases v <;> simp_all [Value.cells, Value.oneCell']

/-! ### objects and states -/
/-- a call: the world at its beginning, the blocks that it may not change -/
structure Base where
  w : World
  old : Nat → Prop
  lt : ∀ k, old k → k < w.heap.size
def Base.all (w : World) : Base := ⟨w, fun k => k < w.heap.size, fun _ h => h⟩
def Base.but (w : World) (g : Nat) : Base := ⟨w, fun k => k < w.heap.size ∧ k ≠ g, fun _ h => h.1⟩
/-- some blocks are as they were -/
structure BelowP (old : Nat → Prop) (w w' : World) : Prop where
  os : w'.os = w.os
  tape : w'.tape = w.tape
  output : w'.output = w.output
  size : w.heap.size ≤ w'.heap.size
  block : ∀ k, old k → w'.heap[k]? = w.heap[k]?
theorem BelowP.refl (old : Nat → Prop) (w : World) : BelowP old w w := ⟨rfl, rfl, rfl, Nat.le_refl _, fun _ _ => rfl⟩
theorem BelowP.trans {old : Nat → Prop} {a b c : World} (h : BelowP old a b) (k : BelowP old b c) : BelowP old a c :=
  ⟨k.os.trans h.os, k.tape.trans h.tape, k.output.trans h.output, Nat.le_trans h.size k.size, fun i hi => (k.block i hi).trans (h.block i hi)⟩
theorem BelowP.mono {old old' : Nat → Prop} {w w' : World} (h : BelowP old w w') (ho : ∀ k, old' k → old k) : BelowP old' w w' :=
  ⟨h.os, h.tape, h.output, h.size, fun k hk => h.block k (ho k hk)⟩
theorem _root_.Go.RowKit.Below.toP {B : Nat} {old : Nat → Prop} {w w' : World} (h : Below B w w') (ho : ∀ k, old k → k < B) : BelowP old w w' :=
  ⟨h.os, h.tape, h.output, h.size, fun k hk => h.block k (ho k hk)⟩
theorem BelowP.below {B : Nat} {w w' : World} (h : BelowP (fun k => k < B) w w') : Below B w w' := ⟨h.os, h.tape, h.output, h.size, h.block⟩
structure RowOk (B : Nat → Prop) (w : World) (S : Nat → Nat → Prop) (blk cap : Nat) (el sz n : Nat) (R : Nat → Nat → Value → Prop) : Prop where
  base : ¬ B blk
  here : ∃ cur, w.heap[blk]? = some (.cells cur el (0, 0)) ∧ cur.size = cap * sz ∧ ∀ i j, i < n → j < sz → ∃ u, cur[i * sz + j]? = some u ∧ R i j u
  fits : n ≤ cap
  len : cap ≤ maxLen
  apart : ∀ o, ¬ S blk o
def SegOk (B : Nat → Prop) (w : World) (S : Nat → Nat → Prop) (ρ : Nat → Nat × Nat) (s : Nat) : Ob → Prop
  | .dat el sz es => (∀ e ∈ es, e.length = sz ∧ e.all DV.one = true) ∧
      RowOk B w S (ρ s).1 (ρ s).2 el sz es.length fun i j u => ∀ e c, es[i]? = some e → e[j]? = some c → RdD w S c u
  | .mix el sz es => (∀ e ∈ es, e.length = sz ∧ e.all AV.one = true) ∧
      RowOk B w S (ρ s).1 (ρ s).2 el sz es.length fun i j u => ∀ e c, es[i]? = some e → e[j]? = some c → RdA w S ρ c u
structure Inv (w0 : Base) (S0 : Nat → Nat → Prop) (N : Nat) (ρ : Nat → Nat × Nat) (S : Nat → Nat → Prop) (st : St) (a : Act) (w : World) : Prop where
  size : a.tmps.size = N
  defers : a.defers = []
  env : ∀ t, RdA w S ρ (st.env t) (a.tmps.getD t undef)
  whens : ∀ n t want v, st.env n = .w t want v → a.tmps[t]? = some (.bool want) → RdA w S ρ v (a.tmps.getD n undef)
  nots : ∀ n t want v, st.env n = .w t want v → a.tmps[t]? ≠ some (.bool want) → a.tmps.getD n undef = undef
  seg : ∀ s o, st.seg s = some o → SegOk w0.old w S ρ s o
  apart : ∀ s s' o o', st.seg s = some o → st.seg s' = some o' → (ρ s).1 = (ρ s').1 → s = s'
  live : ∀ b o, S b o → b < w.heap.size
  up : ∀ b o, S0 b o → S b o
  new : ∀ b o, S b o → S0 b o ∨ ¬ w0.old b
  below : BelowP w0.old w0.w w
theorem Inv.fresh {w0 : Base} {S0 : Nat → Nat → Prop} {N : Nat} {ρ : Nat → Nat × Nat} {S : Nat → Nat → Prop} {st : St} {a : Act} {w : World} (h : Inv w0 S0 N ρ S st a w) {k : Nat} (hk : w.heap.size ≤ k) : ¬ w0.old k := fun ho => by
  have h1 := w0.lt k ho
  have h2 := h.below.size
  omega
def InvE (w0 : Base) (S0 : Nat → Nat → Prop) (N : Nat) (st : St) (a : Act) (w : World) : Prop := ∃ ρ S, Inv w0 S0 N ρ S st a w

theorem RowOk.mono {B : Nat → Prop} {w w' : World} {S S' : Nat → Nat → Prop} {blk cap el sz n : Nat} {R R' : Nat → Nat → Value → Prop} (h : RowOk B w S blk cap el sz n R)
    (hw : w'.heap[blk]? = w.heap[blk]?) (hS : ∀ o, ¬ S' blk o) (hR : ∀ i j u, R i j u → R' i j u) : RowOk B w' S' blk cap el sz n R' := by
  obtain ⟨h1, ⟨cur, h2, h3, h4⟩, h5, h6, h7⟩ := h
  refine ⟨h1, ⟨cur, hw ▸ h2, h3, fun i j hi hj => ?_⟩, h5, h6, hS⟩
  obtain ⟨u, hu, hr⟩ := h4 i j hi hj
  exact ⟨u, hu, hR i j u hr⟩
theorem RowOk.lt {B : Nat → Prop} {w : World} {S : Nat → Nat → Prop} {blk cap el sz n : Nat} {R : Nat → Nat → Value → Prop} (h : RowOk B w S blk cap el sz n R) : blk < w.heap.size := by
  obtain ⟨cur, h2, _⟩ := h.here
  exact (Array.getElem?_eq_some_iff.1 h2).1
theorem SegOk.kept {B : Nat → Prop} {w w' : World} {S S' : Nat → Nat → Prop} {ρ : Nat → Nat × Nat} {s : Nat} {o : Ob} (hk : Kept w w' S S') (h : SegOk B w S ρ s o)
    (hw : w'.heap[(ρ s).1]? = w.heap[(ρ s).1]?) (hS : ∀ o, ¬ S' (ρ s).1 o) : SegOk B w' S' ρ s o := by
  cases o with
  | dat el sz es => exact ⟨h.1, h.2.mono hw hS fun i j u hu e c he hc => RdD.kept hk c u (hu e c he hc)⟩
  | mix el sz es => exact ⟨h.1, h.2.mono hw hS fun i j u hu e c he hc => RdA.kept hk c u (hu e c he hc)⟩
theorem SegOk.lt {B : Nat → Prop} {w : World} {S : Nat → Nat → Prop} {ρ : Nat → Nat × Nat} {s : Nat} {o : Ob} (h : SegOk B w S ρ s o) : ¬ B (ρ s).1 ∧ (ρ s).1 < w.heap.size ∧ ∀ p, ¬ S (ρ s).1 p := by
  cases o with
  | dat el sz es => exact ⟨h.2.base, h.2.lt, h.2.apart⟩
  | mix el sz es => exact ⟨h.2.base, h.2.lt, h.2.apart⟩

end Go.Proofs.Ytjejjokdbbedlaa.Vm
