/- Operations of the pure machine whose order is open: they may change places. No condition. -/
import Derived.Test.YtianifckopijjaaVmB
namespace Go.Proofs.Ytianifckopijjaa.Vm
open Go Go.RowKit
set_option linter.unusedVariables false
set_option linter.unusedSimpArgs false
section
variable {st st2 : St} {rs : List Nat} {call : FuncId → List DV → Option DV}

/-- two states that what reads these slots cannot tell apart -/
def Same (rs : List Nat) (st st2 : St) : Prop := ∀ n ∈ rs, st2.env n = st.env n ∨ ∃ d want v, d ∉ rs ∧ st.env n = .w d want v ∧ st2.env n = .undef

theorem Same.ev (h : Same rs st st2) {x : AX} (hx : ∀ n ∈ x.rd, n ∈ rs) : x.ev st2 = x.ev st := by
  cases x with
  | t n =>
    simp only [AX.ev]
    rcases h n (hx n (by simp [AX.rd])) with h | ⟨d, wa, v, _, h1, h2⟩
    · rw [h]
    · rw [h1, h2]; rfl
  | k c => rfl
  | fn g => rfl
theorem Same.under (h : Same rs st st2) {t : Nat} (ht : t ∈ rs) (want : Bool) : Same rs (st.under t want) (st2.under t want) := by
  intro n hn
  simp only [St.under]
  rcases h n hn with h | ⟨d, wa, v, hd, h1, h2⟩
  · exact .inl (by rw [h])
  · refine .inr ⟨d, wa, v, hd, ?_, by rw [h2]; rfl⟩
    rw [h1]
    simp only [AV.un]
    rw [if_neg]
    rintro ⟨rfl, _⟩
    exact hd ht
theorem Same.evs (h : Same rs st st2) {xs : List AX} (hx : ∀ n ∈ xs.flatMap AX.rd, n ∈ rs) : xs.map (·.ev st2) = xs.map (·.ev st) :=
  List.map_congr_left fun x hxm => h.ev fun n hn => hx n (List.mem_flatMap.2 ⟨x, hxm, hn⟩)
theorem Same.opt (h : Same rs st st2) {x : Option AX} (hx : ∀ n ∈ rdO x, n ∈ rs) : optInt st2 x = optInt st x := by
  cases x with
  | none => rfl
  | some x => simp only [optInt, h.ev (x := x) hx]
theorem Same.bool (h : Same rs st st2) {t : Nat} (ht : t ∈ rs) (b : Bool) : st2.env t = .d (.bool b) ↔ st.env t = .d (.bool b) := by
  rcases h t ht with h | ⟨d, wa, v, _, h1, h2⟩
  · rw [h]
  · rw [h1, h2]; simp

theorem aLoad_seg (h : st2.seg = st.seg) (g : Bool) (sz : Nat) (v : AV) : aLoad st2 g sz v = aLoad st g sz v := by
  unfold aLoad
  rw [h]
theorem aLoad_d (g : Bool) (sz : Nat) (x : DV) : aLoad st2 g sz (.d x) = aLoad st g sz (.d x) := by cases x <;> rfl
theorem snapCell_seg (h : st2.seg = st.seg) : ∀ n, snapCell st2 n = snapCell st n
  | 0 => by
    funext v
    cases v <;> simp only [snapCell]
  | n + 1 => by
    funext v
    cases v <;> simp only [snapCell, snapCell_seg h n, h]
theorem snap_seg (h : st2.seg = st.seg) : snap st2 = snap st := by
  funext v
  simp only [snap, snapCell_seg h]

theorem fill_same (h : Same rs st st2) : ∀ (parts : List (Nat × Nat × AX)) (cells : List AV), (∀ n ∈ parts.flatMap (fun p => p.2.2.rd), n ∈ rs) → aFill st2 cells parts = aFill st cells parts
  | [], cells, _ => rfl
  | (off, size, x) :: l, cells, hp => by
    have h1 : x.ev st2 = x.ev st := h.ev fun n hn => hp n (by simp [hn])
    have h2 := fill_same h l
    simp only [aFill, h1]
    split
    · exact h2 _ fun n hn => hp n (by rw [List.flatMap_cons]; exact List.mem_append.2 (.inr hn))
    · rfl
theorem rows_same (h : Same rs st st2) (sz : Nat) : ∀ (parts : List (Nat × AX)) (rows : List (List AV)), (∀ n ∈ parts.flatMap (fun p => p.2.rd), n ∈ rs) → rowsSet st2 sz rows parts = rowsSet st sz rows parts
  | [], rows, _ => rfl
  | (i, x) :: l, rows, hp => by
    have h1 : x.ev st2 = x.ev st := h.ev fun n hn => hp n (by simp [hn])
    have h2 := rows_same h sz l
    simp only [rowsSet, h1]
    split
    · exact h2 _ fun n hn => hp n (by rw [List.flatMap_cons]; exact List.mem_append.2 (.inr hn))
    · rfl

theorem aVal_same (h : Same rs st st2) {op : AOp} (hr : ∀ n ∈ op.reads, n ∈ rs) (hseg : op.cls = .p ∨ st2.seg = st.seg) : aVal st2 op = aVal st op := by
  have ev : ∀ {x : AX}, (∀ n ∈ x.rd, n ∈ op.reads) → x.ev st2 = x.ev st := fun hx => h.ev fun n hn => hr n (hx n hn)
  have evs : ∀ {xs : List AX}, (∀ n ∈ xs.flatMap AX.rd, n ∈ op.reads) → xs.map (·.ev st2) = xs.map (·.ev st) := fun hx => h.evs fun n hn => hr n (hx n hn)
  cases op with
  | mv x => simp only [aVal]; rw [ev (x := x) fun n hn => by simpa [AOp.reads] using hn]
  | pick c a b =>
    simp only [aVal]
    cases c with
    | t t =>
      have ht : t ∈ rs := hr t (by simp [AOp.reads, AX.rd])
      have ha : a.ev (st2.under t true) = a.ev (st.under t true) := (h.under ht true).ev fun n hn => hr n (by simp [AOp.reads, hn])
      have hb : b.ev (st2.under t false) = b.ev (st.under t false) := (h.under ht false).ev fun n hn => hr n (by simp [AOp.reads, hn])
      simp only [ha, hb]
      rcases h t ht with h | ⟨d, wa, v, _, h1, h2⟩
      · rw [h]
      · rw [h1, h2]
    | k c => rfl
    | fn g => rfl
  | box el sz x => rfl
  | alloc el sz z => rfl
  | build z parts => simp only [aVal]; rw [fill_same h parts _ fun n hn => hr n (by simpa [AOp.reads] using hn)]
  | bslice el sz len z parts => rfl
  | load g sz x z =>
    have hs : st2.seg = st.seg := by simpa [AOp.cls] using hseg
    simp only [aVal]
    rw [ev (x := x) fun n hn => by simpa [AOp.reads] using hn, aLoad_seg hs]
  | store sz a x => rfl
  | bin op x y => simp only [aVal]; rw [ev (x := x) fun n hn => by simp [AOp.reads, hn], ev (x := y) fun n hn => by simp [AOp.reads, hn]]
  | eqb op x y => simp only [aVal]; rw [ev (x := x) fun n hn => by simp [AOp.reads, hn], ev (x := y) fun n hn => by simp [AOp.reads, hn]]
  | eqs op k x y => simp only [aVal]; rw [ev (x := x) fun n hn => by simp [AOp.reads, hn], ev (x := y) fun n hn => by simp [AOp.reads, hn]]
  | shf op x y => simp only [aVal]; rw [ev (x := x) fun n hn => by simp [AOp.reads, hn], ev (x := y) fun n hn => by simp [AOp.reads, hn]]
  | eqnil op x => simp only [aVal]; rw [ev (x := x) fun n hn => by simpa [AOp.reads] using hn]
  | un op x => simp only [aVal]; rw [ev (x := x) fun n hn => by simpa [AOp.reads] using hn]
  | conv k x => simp only [aVal]; rw [ev (x := x) fun n hn => by simpa [AOp.reads] using hn]
  | faddr off x => simp only [aVal]; rw [ev (x := x) fun n hn => by simpa [AOp.reads] using hn]
  | iaddr sz x y z => simp only [aVal]; rw [ev (x := x) fun n hn => by simp [AOp.reads, hn], ev (x := y) fun n hn => by simp [AOp.reads, hn]]
  | slice sz x lo hi m =>
    simp only [aVal]
    rw [ev (x := x) fun n hn => by simp [AOp.reads, hn]]
    unfold aSlice
    rw [h.opt (x := lo) fun n hn => hr n (by simp [AOp.reads, hn]), h.opt (x := hi) fun n hn => hr n (by simp [AOp.reads, hn]), h.opt (x := m) fun n hn => hr n (by simp [AOp.reads, hn])]
  | ext x i => simp only [aVal]; rw [ev (x := x) fun n hn => by simpa [AOp.reads] using hn]
  | len x => simp only [aVal]; rw [ev (x := x) fun n hn => by simpa [AOp.reads] using hn]
  | mx xs => simp only [aVal]; rw [evs (xs := xs) fun n hn => by simpa [AOp.reads] using hn]
  | mn xs => simp only [aVal]; rw [evs (xs := xs) fun n hn => by simpa [AOp.reads] using hn]
  | append el sz b x y => rfl
  | mkslice el sz b z l c => rfl
  | mkfn f caps => simp only [aVal]; rw [evs (xs := caps) fun n hn => by simpa [AOp.reads] using hn]
  | call f args => rfl
  | mcall f x args => rfl
  | dcall f args => rfl

theorem gVal_same (h : Same rs st st2) {op : AOp} (hr : ∀ n ∈ op.reads, n ∈ rs) (hseg : op.cls = .p ∨ st2.seg = st.seg) : gVal call op st2 = gVal call op st := by
  have hv := aVal_same h hr hseg
  cases op with
  | call f args =>
    have hs : st2.seg = st.seg := by simpa [AOp.cls] using hseg
    simp only [gVal]
    rw [snap_seg hs, h.evs (xs := args) fun n hn => hr n (by simpa [AOp.reads] using hn)]
  | dcall f args =>
    have hs : st2.seg = st.seg := by simpa [AOp.cls] using hseg
    simp only [gVal]
    rw [snap_seg hs, h.evs (xs := args) fun n hn => hr n (by simp only [AOp.reads, List.mem_append]; exact .inr hn), h.ev (x := f) fun n hn => hr n (by simp [AOp.reads, hn])]
  | bslice el sz len z parts =>
    simp only [gVal]
    rw [rows_same h sz parts _ fun n hn => hr n (by simpa [AOp.reads] using hn)]
  | _ => exact hv

theorem hypL_same (h : Same rs st st2) : ∀ (up : List (Nat × Bool)) (t : Nat) (want : Bool), t ∈ rs → (∀ p ∈ up, p.1 ∈ rs) → (st.hypL t want up = none ∧ st2.hypL t want up = none) ∨ ∃ g g2, st.hypL t want up = some g ∧ st2.hypL t want up = some g2 ∧ Same rs g g2 ∧ g.seg = st.seg ∧ g2.seg = st2.seg
  | [], t, want, ht, _ => by
    simp only [St.hypL]
    rcases h t ht with h1 | ⟨d, wa, v, _, h1, h2⟩
    · rw [h1]
      split
      · exact .inr ⟨_, _, rfl, rfl, h.under ht want, rfl, rfl⟩
      · exact .inl ⟨rfl, rfl⟩
    · rw [h1, h2]
      exact .inl ⟨rfl, rfl⟩
  | (t', want') :: up, t, want, ht, hu => by
    simp only [St.hypL]
    rcases h t ht with h1 | ⟨d, wa, v, hd, h1, h2⟩
    · rw [h1]
      split
      · exact .inr ⟨_, _, rfl, rfl, h.under ht want, rfl, rfl⟩
      · split
        · rcases hypL_same h up t' want' (hu (t', want') (by simp)) (fun p hp => hu p (by simp [hp])) with ⟨e1, e2⟩ | ⟨g, g2, e1, e2, e3, e4, e5⟩
          · rw [e1, e2]
            exact .inl ⟨rfl, rfl⟩
          · rw [e1, e2]
            exact .inr ⟨_, _, rfl, rfl, e3.under ht want, e4, e5⟩
        · exact .inl ⟨rfl, rfl⟩
      · exact .inl ⟨rfl, rfl⟩
    · rw [h1, h2]
      have : ¬ (d = t' ∧ wa = want') := by
        rintro ⟨rfl, _⟩
        exact hd (hu (d, want') (by simp))
      simp [this]
theorem dead_same (h : Same rs st st2) : ∀ (up : List (Nat × Bool)) (t : Nat) (want : Bool), t ∈ rs → (∀ p ∈ up, p.1 ∈ rs) → st2.dead t want up = st.dead t want up
  | [], t, want, ht, _ => by
    simp only [St.dead]
    rcases h t ht with h1 | ⟨d, wa, v, _, h1, h2⟩
    · rw [h1]
    · rw [h1, h2]
  | (t', want') :: up, t, want, ht, hu => by
    have ih := dead_same h up t' want' (hu (t', want') (by simp)) fun p hp => hu p (by simp [hp])
    simp only [St.dead, ih]
    rcases h t ht with h1 | ⟨d, wa, v, hd, h1, h2⟩
    · rw [h1]
    · rw [h1, h2]
      have : ¬ (d = t' ∧ wa = want') := by
        rintro ⟨rfl, _⟩
        exact hd (hu (d, want') (by simp))
      simp [this]

theorem vRes_same {i : AIns} (h : Same i.reads st st2) (hseg : i.op.cls = .p ∨ st2.seg = st.seg) : vRes call i st2 = vRes call i st := by
  unfold vRes
  cases hg : i.g with
  | none =>
    simp only
    rw [gVal_same h (fun n hn => by simp [AIns.reads, hn]) hseg]
  | some tw =>
    obtain ⟨t, want⟩ := tw
    have ht : t ∈ i.reads := by simp [AIns.reads, hg]
    have hu : ∀ p ∈ i.up, p.1 ∈ i.reads := fun p hp => by simp only [AIns.reads, List.mem_append, List.mem_map]; exact .inr (.inl ⟨p, hp, rfl⟩)
    simp only
    rw [dead_same h i.up t want ht hu]
    rcases hypL_same h i.up t want ht hu with ⟨e1, e2⟩ | ⟨g, g2, e1, e2, e3, e4, e5⟩
    · rw [e1, e2]
    · rw [e1, e2]
      simp only
      rw [gVal_same e3 (fun n hn => by simp [AIns.reads, hn]) (hseg.imp id fun hs => by rw [e4, e5, hs])]

theorem same_put {d : Nat} {v : AV} (hd : d ∉ rs) : Same rs st (st.put d v) := by
  intro n hn
  have hne : n ≠ d := fun e => hd (e ▸ hn)
  simp only [St.put, if_neg hne]
  generalize st.env n = x
  cases x with
  | w t want v =>
    simp only [AV.killW]
    by_cases h : t = d
    · subst h
      exact .inr ⟨_, _, _, hd, rfl, if_pos rfl⟩
    · exact .inl (if_neg h)
  | _ => exact .inl rfl
theorem same_env (h : st2.env = st.env) : Same rs st st2 := fun n _ => .inl (by rw [h])

theorem vRes_kill {i : AIns} {v : AV} (h : vRes call i st = some v) {e : Nat} (he : e ∉ i.reads) : v.killW e = v := by
  unfold vRes at h
  cases hg : i.g with
  | none =>
    simp only [hg, Option.map_eq_some_iff] at h
    obtain ⟨u, _, rfl⟩ := h
    cases u <;> rfl
  | some tw =>
    obtain ⟨t, want⟩ := tw
    have ht : t ∈ i.reads := by simp [AIns.reads, hg]
    have hte : t ≠ e := fun (e' : t = e) => he (e' ▸ ht)
    simp only [hg] at h
    (repeat' split at h) <;> first
      | (cases h; done)
      | (cases h; simp only [AV.killW]; rw [if_neg hte])
      | (simp only [Option.map_eq_some_iff] at h; obtain ⟨x, _, rfl⟩ := h; simp only [AV.killW]; rw [if_neg hte])
theorem killW_comm (v : AV) (d e : Nat) : (v.killW d).killW e = (v.killW e).killW d := by
  cases v <;> try rfl
  rename_i t want v
  by_cases h1 : t = d <;> by_cases h2 : t = e <;> simp [AV.killW, h1, h2] <;> (try subst h1) <;> (try subst h2) <;> simp_all [AV.killW]
theorem put_put {d e : Nat} {u v : AV} (hne : d ≠ e) (hv : v.killW e = v) (hu : u.killW d = u) : (st.put d v).put e u = (st.put e u).put d v := by
  simp only [St.put, St.mk.injEq, and_true]
  funext n
  by_cases h1 : n = d
  · subst h1
    simp [hne, hv]
  · by_cases h2 : n = e
    · subst h2
      simp [h1, hu]
    · simp [h1, h2, killW_comm]

/-! ### stores -/
theorem aStore_env (e : Nat → AV) (sz : Nat) (a x : AV) {st' : St} (h : aStore st sz a x = some st') : st'.env = st.env ∧ aStore ⟨e, st.seg⟩ sz a x = some ⟨e, st'.seg⟩ := by
  unfold aStore at h ⊢
  split at h
  · simp only at h ⊢
    split at h
    · rename_i hc
      rw [if_pos hc]
      split at h
      · rename_i hs
        split at h
        · rename_i hz
          try rw [if_pos hz]
          split at h
          · rename_i he
            try simp only [he]
            split at h
            · rename_i ho
              try rw [if_pos ho]
              split at h
              · rename_i hd
                cases h
                exact ⟨rfl, by first | rfl | (simp only [hd]; rfl)⟩
              · rename_i hd
                cases h
                exact ⟨rfl, by first | rfl | (simp only [hd]; rfl)⟩
            · cases h
          · cases h
        · cases h
      · rename_i hs
        split at h
        · rename_i hz
          try rw [if_pos hz]
          split at h
          · rename_i he
            try simp only [he]
            split at h
            · rename_i ho
              try rw [if_pos ho]
              cases h
              exact ⟨rfl, rfl⟩
            · cases h
          · cases h
        · cases h
      · cases h
    · cases h
  · cases h
theorem aStore_at {sz s sz' i off : Nat} {x : AV} {st' : St} (h : aStore st sz (.ptr s sz' i off) x = some st') {n : Nat} (hn : n ≠ s) : st'.seg n = st.seg n := by
  unfold aStore at h
  simp only at h
  (repeat' split at h) <;> first | cases h; done | (cases h; simp [St.upd, hn])

/-! ### changing places -/
theorem cls_op {i : AIns} (h : i.cls = .p ∨ i.cls = .r ∨ i.cls = .s) : i.e = false ∧ i.op.cls = i.cls := by
  unfold AIns.cls at h ⊢
  cases he : i.e with
  | true => simp [he] at h
  | false => exact ⟨rfl, rfl⟩
theorem dStep_v {i : AIns} (h : i.cls = .p ∨ i.cls = .r) : dStep call i st = vStep call i st := by
  obtain ⟨he, hc⟩ := cls_op (i := i) (by rcases h with h | h <;> simp [h])
  rw [← hc] at h
  unfold dStep
  rw [he]
  simp only [Bool.false_eq_true, if_false]
  split
  · rename_i he
    rw [he] at h
    simp [AOp.cls] at h
  · rfl
theorem dStep_s {i : AIns} (h : i.cls = .s) {st' : St} (hs : dStep call i st = some st') : ∃ sz a x, i.op = .store sz a x ∧ i.g = none ∧ i.dst = none ∧ i.e = false ∧ aStore st sz (a.ev st) (x.ev st) = some st' := by
  obtain ⟨he, hc⟩ := cls_op (i := i) (by simp [h])
  rw [← hc] at h
  unfold dStep at hs
  rw [he] at hs
  simp only [Bool.false_eq_true, if_false] at hs
  split at hs
  · rename_i sz a x he0
    split at hs
    · rename_i h1 h2
      exact ⟨sz, a, x, he0, h1, h2, he, hs⟩
    · cases hs
  · rename_i hne
    cases hop : i.op <;> simp [hop, AOp.cls] at h
    exact absurd hop (hne _ _ _)
theorem vStep_eq {i : AIns} {st' : St} (h : vStep call i st = some st') : ∃ d v, i.dst = some d ∧ vRes call i st = some v ∧ st' = st.put d v := by
  unfold vStep at h
  split at h
  · rename_i d hd
    simp only [Option.map_eq_some_iff] at h
    obtain ⟨v, hv, rfl⟩ := h
    exact ⟨d, v, hd, hv, rfl⟩
  · cases h
theorem apart_spec {x y : AIns} (h : apartI x y = true) : (∀ d, x.dst = some d → d ∉ y.reads ∧ y.dst ≠ some d) ∧ ∀ d, y.dst = some d → d ∉ x.reads := by
  refine ⟨fun d hd => ?_, fun d hd => ?_⟩ <;> simp [apartI, hd] at h
  · exact ⟨h.1.1, fun e => h.1.2 e⟩
  · exact h.2

theorem swap_vv {x y : AIns} (ha : apartI x y = true) {s s1 s2 : St} (hx : vStep call x s = some s1) (hy : vStep call y s1 = some s2) :
    ∃ s1', vStep call y s = some s1' ∧ vStep call x s1' = some s2 := by
  obtain ⟨h1, h2⟩ := apart_spec ha
  obtain ⟨d, v, hd, hv, rfl⟩ := vStep_eq hx
  obtain ⟨e, u, he, hu, rfl⟩ := vStep_eq hy
  have hd' := h1 d hd
  have he' := h2 e he
  rw [vRes_same (same_put hd'.1) (.inr rfl)] at hu
  refine ⟨s.put e u, by simp only [vStep, he, hu, Option.map_some], ?_⟩
  have hx' : vRes call x (s.put e u) = some v := by rw [vRes_same (same_put he') (.inr rfl), hv]
  simp only [vStep, hd, hx', Option.map_some]
  rw [put_put (fun h => hd'.2 (by rw [he, h])) (vRes_kill hv he') (vRes_kill hu hd'.1)]

theorem swap_ps {x y : AIns} (ha : apartI x y = true) (hp : x.cls = .p) (hs : y.cls = .s) {s s1 s2 : St} (hx : dStep call x s = some s1) (hy : dStep call y s1 = some s2) :
    ∃ s1', dStep call y s = some s1' ∧ dStep call x s1' = some s2 := by
  obtain ⟨h1, h2⟩ := apart_spec ha
  rw [dStep_v (.inl hp)] at hx
  obtain ⟨d, v, hd, hv, rfl⟩ := vStep_eq hx
  obtain ⟨sz, a, b, hop, hg, hdst, hye, hst⟩ := dStep_s hs hy
  have hd' := h1 d hd
  have hea : a.ev (s.put d v) = a.ev s := (same_put (rs := y.reads) hd'.1).ev fun n hn => by simp [AIns.reads, hop, AOp.reads, hn]
  have heb : b.ev (s.put d v) = b.ev s := (same_put (rs := y.reads) hd'.1).ev fun n hn => by simp [AIns.reads, hop, AOp.reads, hn]
  rw [hea, heb] at hst
  obtain ⟨g1, g2⟩ := aStore_env s.env _ _ _ hst
  refine ⟨⟨s.env, s2.seg⟩, ?_, ?_⟩
  · simp only [dStep, hye, Bool.false_eq_true, if_false, hop, hg, hdst]
    exact g2
  · rw [dStep_v (.inl hp)]
    have hx' : vRes call x ⟨s.env, s2.seg⟩ = some v := (vRes_same (same_env (st := s) (st2 := ⟨s.env, s2.seg⟩) rfl) (.inl ((cls_op (.inl hp)).2.trans hp))).trans hv
    simp only [vStep, hd, hx', Option.map_some]
    obtain ⟨e2, g⟩ := s2
    simp only at g1
    subst g1
    rfl
theorem swap_sp {x y : AIns} (ha : apartI x y = true) (hs : x.cls = .s) (hp : y.cls = .p) {s s1 s2 : St} (hx : dStep call x s = some s1) (hy : dStep call y s1 = some s2) :
    ∃ s1', dStep call y s = some s1' ∧ dStep call x s1' = some s2 := by
  obtain ⟨h1, h2⟩ := apart_spec ha
  obtain ⟨sz, a, b, hop, hg, hdst, hye, hst⟩ := dStep_s hs hx
  rw [dStep_v (.inl hp)] at hy
  obtain ⟨d, v, hd, hv, rfl⟩ := vStep_eq hy
  have hd' := h2 d hd
  have henv := (aStore_env s.env _ _ _ hst).1
  have hv' : vRes call y s = some v := (vRes_same (same_env (st := s) henv) (.inl ((cls_op (.inl hp)).2.trans hp))).symm.trans hv
  refine ⟨s.put d v, by rw [dStep_v (.inl hp)]; simp only [vStep, hd, hv', Option.map_some], ?_⟩
  have hea : a.ev (s.put d v) = a.ev s := (same_put (rs := x.reads) hd').ev fun n hn => by simp [AIns.reads, hop, AOp.reads, hn]
  have heb : b.ev (s.put d v) = b.ev s := (same_put (rs := x.reads) hd').ev fun n hn => by simp [AIns.reads, hop, AOp.reads, hn]
  simp only [dStep, hye, Bool.false_eq_true, if_false, hop, hg, hdst, hea, heb]
  have := (aStore_env (s.put d v).env _ _ _ hst).2
  rw [show (⟨(s.put d v).env, s.seg⟩ : St) = s.put d v from rfl] at this
  rw [this]
  simp only [St.put, henv]

theorem swap_dyn {x y : AIns} {p : Nat × Nat} (hd : dynI x y = some p) {s s1 s2 : St} (hok : dynOk s p = true) (hx : dStep call x s = some s1) (hy : dStep call y s1 = some s2) :
    ∃ s1', dStep call y s = some s1' ∧ dStep call x s1' = some s2 := by
  unfold dynI at hd
  split at hd
  · rename_i g sz n szs m c hxg hxo hyg hyo
    split at hd
    · rename_i ha
      cases hd
      simp only [Bool.and_eq_true] at ha
      obtain ⟨ha, hxt, hyt⟩ := ha
      obtain ⟨h1, h2⟩ := apart_spec ha
      have hxe : x.e = false := by simp [AIns.e, hxt]
      have hyeF : y.e = false := by simp [AIns.e, hyt]
      have hxc : x.cls = .r := by simp only [AIns.cls, hxe, cond_false, hxo]; rfl
      rw [dStep_v (.inr hxc)] at hx
      obtain ⟨d, v, hdst, hv, rfl⟩ := vStep_eq hx
      obtain ⟨sz', a, b, hop, _, hyd, hye, hst⟩ := dStep_s (by simp only [AIns.cls, hyeF, cond_false, hyo]; rfl) hy
      rw [hyo] at hop
      cases hop
      have hd' := h1 d hdst
      have hea : (AX.t m).ev (s.put d v) = (AX.t m).ev s := (same_put (rs := y.reads) hd'.1).ev fun n hn => by simp only [AIns.reads, hyo, AOp.reads, List.mem_append]; exact .inr (.inr (.inl hn))
      have heb : c.ev (s.put d v) = c.ev s := (same_put (rs := y.reads) hd'.1).ev fun n hn => by simp [AIns.reads, hyo, AOp.reads, hn]
      rw [hea, heb] at hst
      obtain ⟨g1, g2⟩ := aStore_env s.env _ _ _ hst
      refine ⟨⟨s.env, s2.seg⟩, ?_, ?_⟩
      · simp only [dStep, hye, Bool.false_eq_true, if_false, hyo, hyg, hyd]
        exact g2
      · rw [dStep_v (.inr hxc)]
        have hx' : vRes call x ⟨s.env, s2.seg⟩ = vRes call x s := by
          simp only [vRes, hxg, hxo, gVal, aVal, AX.ev]
          congr 2
          simp only [dynOk] at hok
          split at hok
          · rename_i h3 _
            rw [h3]
            exact aLoad_d _ _ _
          · rename_i s0 _ _ _ s' _ _ _ h3 h4
            rw [h3]
            have hne : s0 ≠ s' := by simpa using hok
            simp only [AX.ev, h4, AV.strip] at hst
            have := aStore_at hst hne
            simp only [AV.strip, aLoad, this]
            rfl
          · cases hok
        rw [hv] at hx'
        simp only [vStep, hdst, hx', Option.map_some]
        obtain ⟨e2, g⟩ := s2
        simp only at g1
        subst g1
        rfl
    · cases hd
  · cases hd

theorem swap_comm {x y : AIns} (hc : commI x y = true) {s s1 s2 : St} (hx : dStep call x s = some s1) (hy : dStep call y s1 = some s2) :
    ∃ s1', dStep call y s = some s1' ∧ dStep call x s1' = some s2 := by
  simp only [commI, Bool.and_eq_true] at hc
  obtain ⟨ha, hc⟩ := hc
  have vv : (x.cls = .p ∨ x.cls = .r) → (y.cls = .p ∨ y.cls = .r) → ∃ s1', dStep call y s = some s1' ∧ dStep call x s1' = some s2 := by
    intro h1 h2
    rw [dStep_v h1] at hx
    rw [dStep_v h2] at hy
    obtain ⟨s1', h3, h4⟩ := swap_vv ha hx hy
    exact ⟨s1', by rw [dStep_v h2]; exact h3, by rw [dStep_v h1]; exact h4⟩
  cases h1 : x.cls <;> cases h2 : y.cls <;> simp only [h1, h2, Bool.false_eq_true] at hc
  · exact vv (.inl h1) (.inl h2)
  · exact vv (.inl h1) (.inr h2)
  · exact swap_ps ha h1 h2 hx hy
  · exact vv (.inr h1) (.inl h2)
  · exact vv (.inr h1) (.inr h2)
  · exact swap_sp ha h1 h2 hx hy

/-! ### what stays -/
def AV.solid : AV → Bool
  | .d _ | .ptr _ _ _ _ => true
  | _ => false
theorem solid_kill {v : AV} {t : Nat} (h : (v.killW t).solid = true) : v.killW t = v := by
  cases v <;> first | rfl | skip
  rename_i t' want v
  simp only [AV.killW] at h ⊢
  split at h <;> simp [AV.solid] at h
theorem put_solid {s : St} {t n : Nat} {v : AV} (hn : t ≠ n) (h : ((s.put t v).env n).solid = true) : s.env n = (s.put t v).env n := by
  simp only [St.put, if_neg (Ne.symm hn)] at h ⊢
  exact (solid_kill h).symm
theorem at_solid {s : St} {t n : Nat} {o : Ob} (h : ((s.at_ t o).env n).solid = true) : s.env n = (s.at_ t o).env n := by
  simp only [St.at_, AV.kill] at h ⊢
  split at h
  · simp [AV.solid] at h
  · rename_i hh
    rw [if_neg hh]
theorem lose_solid {s : St} {t n : Nat} (h : ((s.lose t).env n).solid = true) : s.env n = (s.lose t).env n := by
  simp only [St.lose, AV.kill] at h ⊢
  split at h
  · simp [AV.solid] at h
  · rename_i hh
    rw [if_neg hh]
theorem put_at_solid {s : St} {t q n : Nat} {v : AV} {o : Ob} (hn : t ≠ n) (h : (((s.at_ q o).put t v).env n).solid = true) : s.env n = ((s.at_ q o).put t v).env n := by
  have h1 := put_solid hn h
  rw [← h1] at h
  rw [← h1]
  exact at_solid h
theorem placeL_solid {t n : Nat} : ∀ (l : List DV) (j : Nat) (s : St), (((placeL t j l s).2).env n).solid = true → s.env n = ((placeL t j l s).2).env n
  | [], j, s, h => rfl
  | x :: l, j, s, h => by
    have other : (((placeL t (j + 1) l s).2).env n).solid = true → s.env n = ((placeL t (j + 1) l s).2).env n := placeL_solid l (j + 1) s
    cases x with
    | sl q sz es =>
      cases q with
      | own el =>
        simp only [placeL] at h ⊢
        have h1 := placeL_solid l (j + 1) _ h
        rw [← h1] at h
        rw [← h1]
        exact at_solid h
      | _ => exact other h
    | _ => exact other h
theorem place_solid {s : St} {t n : Nat} {r : DV} (hn : t ≠ n) (h : ((place t r s).env n).solid = true) : s.env n = (place t r s).env n := by
  cases r with
  | sl q sz es =>
    cases q with
    | own el => exact put_at_solid hn h
    | _ => exact put_solid hn h
  | tuple vs =>
    simp only [place] at h ⊢
    split at h
    · rename_i hc
      rw [if_pos hc]
      have h1 := put_solid hn h
      rw [← h1] at h
      rw [← h1]
      exact placeL_solid _ _ _ h
    · rename_i hc
      rw [if_neg hc]
      exact put_solid hn h
  | agg vs =>
    simp only [place] at h ⊢
    split at h
    · rename_i hc
      rw [if_pos hc]
      have h1 := put_solid hn h
      rw [← h1] at h
      rw [← h1]
      exact placeL_solid _ _ _ h
    · rename_i hc
      rw [if_neg hc]
      exact put_solid hn h
  | _ => exact put_solid hn h
theorem append_solid {s s' : St} {t el sz b n : Nat} {x y : AV} (hn : t ≠ n) (h : aAppend s t el sz b x y = some s') (hs : (s'.env n).solid = true) : s.env n = s'.env n := by
  unfold aAppend at h
  (repeat' split at h) <;> first
    | cases h; done
    | (cases h; exact put_solid hn hs)
    | (cases h; exact put_at_solid hn hs)
    | (cases h; exact put_at_solid (s := s.drop _) hn hs)
theorem aVal_solid {s s' : St} {t n : Nat} {op : AOp} (hn : t ≠ n) (h : (aVal s op).map (fun v => s.put t v.strip) = some s') (hs : (s'.env n).solid = true) : s.env n = s'.env n := by
  simp only [Option.map_eq_some_iff] at h
  obtain ⟨v, _, rfl⟩ := h
  exact put_solid hn hs
theorem eStep_solid {s s' : St} {dst : Option Nat} {op : AOp} (h : eStep call dst op s = some s') {n : Nat} (hn : dst ≠ some n) (hs : (s'.env n).solid = true) : s.env n = s'.env n := by
  cases dst with
  | none =>
    cases op <;> first
      | (simp only [eStep, opStep] at h; cases h; done)
      | skip
    simp only [eStep, opStep] at h
    rw [(aStore_env s.env _ _ _ h).1]
  | some t =>
    have ht : t ≠ n := fun h => hn (by rw [h])
    cases op <;> first
      | (simp only [eStep, opStep] at h; exact aVal_solid ht h hs)
      | skip
    case call f args =>
      simp only [eStep] at h
      split at h
      · simp only [Option.bind_eq_some_iff] at h
        obtain ⟨r, _, h⟩ := h
        split at h
        · cases h
        · cases h
          exact place_solid ht hs
      · cases h
    case dcall => simp [eStep] at h
    case mcall f x args =>
      simp only [eStep, opStep] at h
      (repeat' split at h) <;> try (cases h; done)
      simp only [Option.map_eq_some_iff] at h
      obtain ⟨r, _, rfl⟩ := h
      have h1 := place_solid ht hs
      rw [← h1] at hs
      rw [← h1]
      exact lose_solid hs
    case append el sz b x y =>
      simp only [eStep, opStep] at h
      exact append_solid ht h hs
    all_goals
      simp only [eStep, opStep] at h
      (repeat' split at h) <;> first
        | cases h; done
        | (cases h; exact put_at_solid ht hs)
theorem dStep_keeps {i : AIns} {s s' : St} (h : dStep call i s = some s') {n : Nat} (hn : i.dst ≠ some n) (hs : (s'.env n).solid = true) : s.env n = s'.env n := by
  have hv : vStep call i s = some s' → s.env n = s'.env n := by
    intro h
    obtain ⟨d, v, hd, _, rfl⟩ := vStep_eq h
    exact put_solid (fun e => hn (by rw [hd, e])) hs
  unfold dStep at h
  split at h
  · exact eStep_solid h hn hs
  · split at h
    · split at h
      · rw [(aStore_env s.env _ _ _ h).1]
      · cases h
    · exact hv h
theorem runD_solid {n : Nat} : ∀ (l : List AIns) (s s' : St), runD call l s = some s' → (∀ i ∈ l, i.dst ≠ some n) → (s'.env n).solid = true → s.env n = s'.env n
  | [], s, s', h, _, _ => by
    simp only [runD, Option.some.injEq] at h
    rw [h]
  | i :: l, s, s', h, hd, hs => by
    simp only [runD] at h
    cases h1 : dStep call i s with
    | none => simp [h1] at h
    | some s1 =>
      simp only [h1, Option.bind_some] at h
      have ih := runD_solid l s1 s' h (fun j hj => hd j (List.mem_cons.2 (.inr hj))) hs
      rw [← ih] at hs ⊢
      exact dStep_keeps h1 (hd i (List.mem_cons.2 (.inl rfl))) hs
theorem dynOk_solid {s : St} {p : Nat × Nat} (h : dynOk s p = true) : (s.env p.1).solid = true ∧ (s.env p.2).solid = true := by
  unfold dynOk at h
  split at h
  · rename_i h1 h2
    rw [h1, h2]
    exact ⟨rfl, rfl⟩
  · rename_i h1 h2
    rw [h1, h2]
    exact ⟨rfl, rfl⟩
  · cases h

/-! ### what stands ahead -/
theorem cloRow_bit {acc : List Nat} {j : Nat} : ∀ (p : List Nat) (m : Nat), (cloRow acc p m).testBit j = true → m.testBit j = true ∨ ∃ k ∈ p, j = k ∨ (acc.getD k 0).testBit j = true
  | [], m, h => .inl h
  | k :: p, m, h => by
    simp only [cloRow] at h
    rcases cloRow_bit p _ h with h | ⟨k', hk, h⟩
    · simp only [Nat.testBit_or, Bool.or_eq_true] at h
      rcases h with (h | h) | h
      · exact .inl h
      · refine .inr ⟨k, by simp, .inl ?_⟩
        rw [Nat.one_shiftLeft, Nat.testBit_two_pow] at h
        have := of_decide_eq_true h
        omega
      · exact .inr ⟨k, by simp, .inr h⟩
    · exact .inr ⟨k', by simp [hk], h⟩
theorem clo_of {all : List (List Nat)} {R : Nat → Nat → Prop} (h1 : ∀ i k, k ∈ all.getD i [] → R i k) (h2 : ∀ i k j, k ∈ all.getD i [] → R k j → R i j) :
    ∀ (l d : List (List Nat)) (acc : List Nat), all = d ++ l → acc.length = d.length → (∀ i j, (acc.getD i 0).testBit j = true → R i j) → ∀ i j, ((clo l acc).getD i 0).testBit j = true → R i j
  | [], d, acc, _, _, hacc, i, j, h => hacc i j h
  | p :: l, d, acc, hall, hlen, hacc, i, j, h => by
    simp only [clo] at h
    refine clo_of h1 h2 l (d ++ [p]) (acc ++ [cloRow acc p 0]) (by rw [hall]; simp) (by simp [hlen]) (fun i j h => ?_) i j h
    rw [List.getD_eq_getElem?_getD] at h
    by_cases hi : i < acc.length
    · rw [List.getElem?_append_left hi, ← List.getD_eq_getElem?_getD] at h
      exact hacc i j h
    · by_cases he : i = acc.length
      · subst he
        simp only [List.getElem?_concat_length, Option.getD_some] at h
        have hp : all.getD acc.length [] = p := by
          rw [hall, List.getD_eq_getElem?_getD, hlen, List.getElem?_append_right (Nat.le_refl _)]
          simp
        rcases cloRow_bit p 0 h with h | ⟨k, hk, h⟩
        · simp at h
        · rcases h with rfl | h
          · exact h1 _ _ (by rw [hp]; exact hk)
          · exact h2 _ k _ (by rw [hp]; exact hk) (hacc k j h)
      · have : (acc ++ [cloRow acc p 0])[i]? = none := List.getElem?_eq_none (by simp; omega)
        rw [this] at h
        simp at h
theorem eMode_length {c : List Nat} {n : Nat} : ∀ (l : List AIns) (k : Nat), (eMode c n k l).length = l.length
  | [], k => rfl
  | x :: l, k => by simp [eMode, eMode_length l (k + 1)]
theorem eMode_at {c : List Nat} {n : Nat} : ∀ (l : List AIns) (k i : Nat) (y : AIns), (eMode c n k l)[i]? = some y → ∃ x, l[i]? = some x ∧ (y = x ∨ (x.g = none ∧ y = { x with tot := false }))
  | [], k, i, y, h => by simp [eMode] at h
  | x :: l, k, 0, y, h => by
    simp only [eMode, List.getElem?_cons_zero, Option.some.injEq] at h
    refine ⟨x, by simp, ?_⟩
    cases hc : (x.g.isNone && (x.op.makes && ordered c n k)) with
    | false => rw [hc] at h; exact .inl h.symm
    | true =>
      rw [hc] at h
      simp only [Bool.and_eq_true] at hc
      exact .inr ⟨by simpa using hc.1, h.symm⟩
  | x :: l, k, i + 1, y, h => by
    simp only [eMode, List.getElem?_cons_succ] at h
    simpa using eMode_at l (k + 1) i y h

/-! ### an operation brought to the front -/
def pickL (l : List AIns) (ks : List Nat) : List AIns := ks.filterMap (l[·]?)
theorem pickL_cons {l : List AIns} {k : Nat} {i : AIns} (h : l[k]? = some i) (ks : List Nat) : pickL l (k :: ks) = i :: pickL l ks := by
  simp [pickL, h]
theorem dstsOk_spec {l : List AIns} {n lim : Nat} {pre : List Nat} (h : dstsOk l n lim pre = true) {k : Nat} {i : AIns} (hk : l[k]? = some i) (hlim : lim ≤ k) (hpre : k ∉ pre) : i.dst ≠ some n := by
  have hlt : k < l.length := (List.getElem?_eq_some_iff.1 hk).1
  have := List.all_eq_true.1 h k (List.mem_range.2 hlt)
  simp only [hk, Bool.or_eq_true, bne_iff_ne, decide_eq_true_eq, List.contains_eq_mem] at this
  rcases this with (h | h) | h
  · exact h
  · omega
  · exact absurd h hpre
theorem bubble {l : List AIns} {i : Nat} {pr post : List Nat} {s' : St} : ∀ (pre : List Nat) (s : St), (pre ++ i :: post).Pairwise (· < ·) → (∀ k ∈ pre ++ i :: post, k ∉ pr) →
    (∀ j ∈ pre, commAt l j i = true ∨ ∃ p, dynAt l j i pr = some p ∧ dynOk s' p = true) → runD call (pickL l (pre ++ i :: post)) s = some s' → runD call (pickL l (i :: (pre ++ post))) s = some s'
  | [], s, _, _, _, h => h
  | j :: pre, s, hs, hun, hok, h => by
    have hj := hok j (List.mem_cons.2 (.inl rfl))
    have hxy : ∃ x y, l[j]? = some x ∧ l[i]? = some y := by
      cases hx : l[j]? with
      | none => rcases hj with h | ⟨p, h, _⟩ <;> simp [commAt, dynAt, hx] at h
      | some x =>
        cases hy : l[i]? with
        | none => rcases hj with h | ⟨p, h, _⟩ <;> simp [commAt, dynAt, hx, hy] at h
        | some y => exact ⟨x, y, rfl, rfl⟩
    obtain ⟨x, y, hx, hy⟩ := hxy
    have hrun := h
    rw [List.cons_append, pickL_cons hx] at h
    simp only [runD] at h
    cases h1 : dStep call x s with
    | none => simp [h1] at h
    | some s1 =>
      simp only [h1, Option.bind_some] at h
      have hs' : (pre ++ i :: post).Pairwise (· < ·) := (List.pairwise_cons.1 (by simpa using hs)).2
      have ih := bubble pre s1 hs' (fun k hk => hun k (List.mem_cons.2 (.inr hk))) (fun k hk => hok k (List.mem_cons.2 (.inr hk))) h
      rw [pickL_cons hy] at ih
      simp only [runD] at ih
      cases h2 : dStep call y s1 with
      | none => simp [h2] at ih
      | some s2 =>
        simp only [h2, Option.bind_some] at ih
        have hsw : ∃ s1', dStep call y s = some s1' ∧ dStep call x s1' = some s2 := by
          rcases hj with hc | ⟨p, hp, hdyn⟩
          · simp only [commAt, hx, hy] at hc
            exact swap_comm hc h1 h2
          · simp only [dynAt, hx, hy] at hp
            split at hp
            · rename_i n m hd
              split at hp
              · rename_i hds
                cases hp
                simp only [Bool.and_eq_true] at hds
                obtain ⟨so1, so2⟩ := dynOk_solid hdyn
                have hge : ∀ k ∈ j :: pre ++ i :: post, j ≤ k := by
                  intro k hk
                  rcases List.mem_cons.1 hk with rfl | hk
                  · exact Nat.le_refl _
                  · exact Nat.le_of_lt ((List.pairwise_cons.1 (by simpa using hs)).1 k hk)
                have hmem : ∀ z ∈ pickL l (j :: pre ++ i :: post), ∃ k ∈ j :: pre ++ i :: post, l[k]? = some z := by
                  intro z hz
                  obtain ⟨k, hk, hkz⟩ := List.mem_filterMap.1 hz
                  exact ⟨k, hk, hkz⟩
                have e1 := runD_solid _ _ _ hrun (n := n) (fun z hz => by
                  obtain ⟨k, hk, hkz⟩ := hmem z hz
                  exact dstsOk_spec hds.1 hkz (hge k hk) (by simp)) so1
                have e2 := runD_solid _ _ _ hrun (n := m) (fun z hz => by
                  obtain ⟨k, hk, hkz⟩ := hmem z hz
                  exact dstsOk_spec hds.2 hkz (Nat.zero_le _) (hun k hk)) so2
                refine swap_dyn hd ?_ h1 h2
                rw [← hdyn]
                simp only [dynOk, e1, e2]
              · cases hp
            · cases hp
        obtain ⟨s1', g1, g2⟩ := hsw
        rw [pickL_cons hy, List.cons_append, pickL_cons hx]
        simp only [runD, g1, Option.bind_some, g2]
        exact ih
end
end Go.Proofs.Ytianifckopijjaa.Vm
