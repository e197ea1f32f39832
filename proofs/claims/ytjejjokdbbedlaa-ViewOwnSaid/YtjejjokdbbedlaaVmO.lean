/- Operations of the pure machine whose order is open: they may change places. No condition. -/
import Derived.Test.YtjejjokdbbedlaaVmB
namespace Go.Proofs.Ytjejjokdbbedlaa.Vm
open Go Go.RowKit
set_option linter.unusedVariables false
set_option linter.unusedSimpArgs false
section
variable {st st2 : St} {rs : List Nat} {call : FuncId → List DV → Option DV}

/-- two states that what reads these slots cannot tell apart -/
def Same (rs : List Nat) (st st2 : St) : Prop := ∀ n ∈ rs, st2.env n = st.env n ∨ ∃ d want v, d ∉ rs ∧ st.env n = .w d want v ∧ st2.env n = .undef

theorem Same.ev (h : Same rs st st2) {x : AX} (hx : ∀ n ∈ x.rd, n ∈ rs) : x.ev st2 = x.ev st := by
  cases x with
  | t n =>
    simp only [AX.ev]
    rcases h n (hx n (by simp [AX.rd])) with h | ⟨d, wa, v, _, h1, h2⟩
    · rw [h]
    · rw [h1, h2]; rfl
  | k c => rfl
  | fn g => rfl
theorem Same.under (h : Same rs st st2) {t : Nat} (ht : t ∈ rs) (want : Bool) : Same rs (st.under t want) (st2.under t want) := by
  intro n hn
  simp only [St.under]
  rcases h n hn with h | ⟨d, wa, v, hd, h1, h2⟩
  · exact .inl (by rw [h])
  · refine .inr ⟨d, wa, v, hd, ?_, by rw [h2]; rfl⟩
    rw [h1]
    simp only [AV.un]
    rw [if_neg]
    rintro ⟨rfl, _⟩
    exact hd ht
theorem Same.evs (h : Same rs st st2) {xs : List AX} (hx : ∀ n ∈ xs.flatMap AX.rd, n ∈ rs) : xs.map (·.ev st2) = xs.map (·.ev st) :=
  List.map_congr_left fun x hxm => h.ev fun n hn => hx n (List.mem_flatMap.2 ⟨x, hxm, hn⟩)
theorem Same.opt (h : Same rs st st2) {x : Option AX} (hx : ∀ n ∈ rdO x, n ∈ rs) : optInt st2 x = optInt st x := by
  cases x with
  | none => rfl
  | some x => simp only [optInt, h.ev (x := x) hx]
theorem Same.bool (h : Same rs st st2) {t : Nat} (ht : t ∈ rs) (b : Bool) : st2.env t = .d (.bool b) ↔ st.env t = .d (.bool b) := by
  rcases h t ht with h | ⟨d, wa, v, _, h1, h2⟩
  · rw [h]
  · rw [h1, h2]; simp

theorem aLoad_seg (h : st2.seg = st.seg) (g : Bool) (sz : Nat) (v : AV) : aLoad st2 g sz v = aLoad st g sz v := by
  unfold aLoad
  rw [h]
theorem aLoad_d (g : Bool) (sz : Nat) (x : DV) : aLoad st2 g sz (.d x) = aLoad st g sz (.d x) := by cases x <;> rfl
theorem snapCell_seg (h : st2.seg = st.seg) : ∀ n, snapCell st2 n = snapCell st n
  | 0 => by
    funext v
    cases v <;> simp only [snapCell]
  | n + 1 => by
    funext v
    cases v <;> simp only [snapCell, snapCell_seg h n, h]
theorem snap_seg (h : st2.seg = st.seg) : snap st2 = snap st := by
  funext v
  simp only [snap, snapCell_seg h]

theorem fill_same (h : Same rs st st2) : ∀ (parts : List (Nat × Nat × AX)) (cells : List AV), (∀ n ∈ parts.flatMap (fun p => p.2.2.rd), n ∈ rs) → aFill st2 cells parts = aFill st cells parts
  | [], cells, _ => rfl
  | (off, size, x) :: l, cells, hp => by
    have h1 : x.ev st2 = x.ev st := h.ev fun n hn => hp n (by simp [hn])
    have h2 := fill_same h l
    simp only [aFill, h1]
    split
    · exact h2 _ fun n hn => hp n (by rw [List.flatMap_cons]; exact List.mem_append.2 (.inr hn))
    · rfl
theorem rows_same (h : Same rs st st2) (sz : Nat) : ∀ (parts : List (Nat × AX)) (rows : List (List AV)), (∀ n ∈ parts.flatMap (fun p => p.2.rd), n ∈ rs) → rowsSet st2 sz rows parts = rowsSet st sz rows parts
  | [], rows, _ => rfl
  | (i, x) :: l, rows, hp => by
    have h1 : x.ev st2 = x.ev st := h.ev fun n hn => hp n (by simp [hn])
    have h2 := rows_same h sz l
    simp only [rowsSet, h1]
    split
    · exact h2 _ fun n hn => hp n (by rw [List.flatMap_cons]; exact List.mem_append.2 (.inr hn))
    · rfl

theorem aVal_same (h : Same rs st st2) {op : AOp} (hr : ∀ n ∈ op.reads, n ∈ rs) (hseg : op.cls = .p ∨ st2.seg = st.seg) : aVal st2 op = aVal st op := by
  have ev : ∀ {x : AX}, (∀ n ∈ x.rd, n ∈ op.reads) → x.ev st2 = x.ev st := fun hx => h.ev fun n hn => hr n (hx n hn)
  have evs : ∀ {xs : List AX}, (∀ n ∈ xs.flatMap AX.rd, n ∈ op.reads) → xs.map (·.ev st2) = xs.map (·.ev st) := fun hx => h.evs fun n hn => hr n (hx n hn)
  cases op with
  | mv x => simp only [aVal]; rw [ev (x := x) fun n hn => by simpa [AOp.reads] using hn]
  | pick c a b =>
    simp only [aVal]
    cases c with
    | t t =>
      have ht : t ∈ rs := hr t (by simp [AOp.reads, AX.rd])
      have ha : a.ev (st2.under t true) = a.ev (st.under t true) := (h.under ht true).ev fun n hn => hr n (by simp [AOp.reads, hn])
      have hb : b.ev (st2.under t false) = b.ev (st.under t false) := (h.under ht false).ev fun n hn => hr n (by simp [AOp.reads, hn])
      simp only [ha, hb]
      rcases h t ht with h | ⟨d, wa, v, _, h1, h2⟩
      · rw [h]
      · rw [h1, h2]
    | k c => rfl
    | fn g => rfl
  | box el sz x => rfl
  | alloc el sz z => rfl
  | build z parts => simp only [aVal]; rw [fill_same h parts _ fun n hn => hr n (by simpa [AOp.reads] using hn)]
  | bslice el sz len z parts => rfl
  | load g sz x z =>
    have hs : st2.seg = st.seg := by simpa [AOp.cls] using hseg
    simp only [aVal]
    rw [ev (x := x) fun n hn => by simpa [AOp.reads] using hn, aLoad_seg hs]
  | store sz a x => rfl
  | bin op x y => simp only [aVal]; rw [ev (x := x) fun n hn => by simp [AOp.reads, hn], ev (x := y) fun n hn => by simp [AOp.reads, hn]]
  | eqb op x y => simp only [aVal]; rw [ev (x := x) fun n hn => by simp [AOp.reads, hn], ev (x := y) fun n hn => by simp [AOp.reads, hn]]
  | eqs op k x y => simp only [aVal]; rw [ev (x := x) fun n hn => by simp [AOp.reads, hn], ev (x := y) fun n hn => by simp [AOp.reads, hn]]
  | shf op x y => simp only [aVal]; rw [ev (x := x) fun n hn => by simp [AOp.reads, hn], ev (x := y) fun n hn => by simp [AOp.reads, hn]]
  | eqnil op x => simp only [aVal]; rw [ev (x := x) fun n hn => by simpa [AOp.reads] using hn]
  | un op x => simp only [aVal]; rw [ev (x := x) fun n hn => by simpa [AOp.reads] using hn]
  | conv k x => simp only [aVal]; rw [ev (x := x) fun n hn => by simpa [AOp.reads] using hn]
  | faddr off x => simp only [aVal]; rw [ev (x := x) fun n hn => by simpa [AOp.reads] using hn]
  | iaddr sz x y z => simp only [aVal]; rw [ev (x := x) fun n hn => by simp [AOp.reads, hn], ev (x := y) fun n hn => by simp [AOp.reads, hn]]
  | slice sz x lo hi m =>
    simp only [aVal]
    rw [ev (x := x) fun n hn => by simp [AOp.reads, hn]]
    unfold aSlice
    rw [h.opt (x := lo) fun n hn => hr n (by simp [AOp.reads, hn]), h.opt (x := hi) fun n hn => hr n (by simp [AOp.reads, hn]), h.opt (x := m) fun n hn => hr n (by simp [AOp.reads, hn])]
  | ext x i => simp only [aVal]; rw [ev (x := x) fun n hn => by simpa [AOp.reads] using hn]
  | len x => simp only [aVal]; rw [ev (x := x) fun n hn => by simpa [AOp.reads] using hn]
  | mx xs => simp only [aVal]; rw [evs (xs := xs) fun n hn => by simpa [AOp.reads] using hn]
  | mn xs => simp only [aVal]; rw [evs (xs := xs) fun n hn => by simpa [AOp.reads] using hn]
  | append el sz b x y => rfl
  | mkslice el sz b z l c => rfl
  | mkfn f caps => simp only [aVal]; rw [evs (xs := caps) fun n hn => by simpa [AOp.reads] using hn]
  | call f args => rfl
  | mcall f x args => rfl
  | dcall f args => rfl

theorem gVal_same (h : Same rs st st2) {op : AOp} (hr : ∀ n ∈ op.reads, n ∈ rs) (hseg : op.cls = .p ∨ st2.seg = st.seg) : gVal call op st2 = gVal call op st := by
  have hv := aVal_same h hr hseg
  cases op with
  | call f args =>
    have hs : st2.seg = st.seg := by simpa [AOp.cls] using hseg
    simp only [gVal]
    rw [snap_seg hs, h.evs (xs := args) fun n hn => hr n (by simpa [AOp.reads] using hn)]
  | dcall f args =>
    have hs : st2.seg = st.seg := by simpa [AOp.cls] using hseg
    simp only [gVal]
    rw [snap_seg hs, h.evs (xs := args) fun n hn => hr n (by simp only [AOp.reads, List.mem_append]; exact .inr hn), h.ev (x := f) fun n hn => hr n (by simp [AOp.reads, hn])]
  | bslice el sz len z parts =>
    simp only [gVal]
    rw [rows_same h sz parts _ fun n hn => hr n (by simpa [AOp.reads] using hn)]
  | box el sz x =>
    simp only [gVal]
    rw [h.ev (x := x) fun n hn => hr n (by simpa [AOp.reads] using hn)]
  | _ => exact hv

theorem hypL_same (h : Same rs st st2) : ∀ (up : List (Nat × Bool)) (t : Nat) (want : Bool), t ∈ rs → (∀ p ∈ up, p.1 ∈ rs) → (st.hypL t want up = none ∧ st2.hypL t want up = none) ∨ ∃ g g2, st.hypL t want up = some g ∧ st2.hypL t want up = some g2 ∧ Same rs g g2 ∧ g.seg = st.seg ∧ g2.seg = st2.seg
  | [], t, want, ht, _ => by
    simp only [St.hypL]
    rcases h t ht with h1 | ⟨d, wa, v, _, h1, h2⟩
    · rw [h1]
      split
      · exact .inr ⟨_, _, rfl, rfl, h.under ht want, rfl, rfl⟩
      · exact .inl ⟨rfl, rfl⟩
    · rw [h1, h2]
      exact .inl ⟨rfl, rfl⟩
  | (t', want') :: up, t, want, ht, hu => by
    simp only [St.hypL]
    rcases h t ht with h1 | ⟨d, wa, v, hd, h1, h2⟩
    · rw [h1]
      split
      · exact .inr ⟨_, _, rfl, rfl, h.under ht want, rfl, rfl⟩
      · split
        · rcases hypL_same h up t' want' (hu (t', want') (by simp)) (fun p hp => hu p (by simp [hp])) with ⟨e1, e2⟩ | ⟨g, g2, e1, e2, e3, e4, e5⟩
          · rw [e1, e2]
            exact .inl ⟨rfl, rfl⟩
          · rw [e1, e2]
            exact .inr ⟨_, _, rfl, rfl, e3.under ht want, e4, e5⟩
        · exact .inl ⟨rfl, rfl⟩
      · exact .inl ⟨rfl, rfl⟩
    · rw [h1, h2]
      have : ¬ (d = t' ∧ wa = want') := by
        rintro ⟨rfl, _⟩
        exact hd (hu (d, want') (by simp))
      simp [this]
theorem dead_same (h : Same rs st st2) : ∀ (up : List (Nat × Bool)) (t : Nat) (want : Bool), t ∈ rs → (∀ p ∈ up, p.1 ∈ rs) → st2.dead t want up = st.dead t want up
  | [], t, want, ht, _ => by
    simp only [St.dead]
    rcases h t ht with h1 | ⟨d, wa, v, _, h1, h2⟩
    · rw [h1]
    · rw [h1, h2]
  | (t', want') :: up, t, want, ht, hu => by
    have ih := dead_same h up t' want' (hu (t', want') (by simp)) fun p hp => hu p (by simp [hp])
    simp only [St.dead, ih]
    rcases h t ht with h1 | ⟨d, wa, v, hd, h1, h2⟩
    · rw [h1]
    · rw [h1, h2]
      have : ¬ (d = t' ∧ wa = want') := by
        rintro ⟨rfl, _⟩
        exact hd (hu (d, want') (by simp))
      simp [this]

theorem vRes_same {i : AIns} (h : Same i.reads st st2) (hseg : i.op.cls = .p ∨ st2.seg = st.seg) : vRes call i st2 = vRes call i st := by
  unfold vRes
  cases hg : i.g with
  | none =>
    simp only
    rw [gVal_same h (fun n hn => by simp [AIns.reads, hn]) hseg]
  | some tw =>
    obtain ⟨t, want⟩ := tw
    have ht : t ∈ i.reads := by simp [AIns.reads, hg]
    have hu : ∀ p ∈ i.up, p.1 ∈ i.reads := fun p hp => by simp only [AIns.reads, List.mem_append, List.mem_map]; exact .inr (.inl ⟨p, hp, rfl⟩)
    simp only
    rw [dead_same h i.up t want ht hu]
    rcases hypL_same h i.up t want ht hu with ⟨e1, e2⟩ | ⟨g, g2, e1, e2, e3, e4, e5⟩
    · rw [e1, e2]
    · rw [e1, e2]
      simp only
      rw [gVal_same e3 (fun n hn => by simp [AIns.reads, hn]) (hseg.imp id fun hs => by rw [e4, e5, hs])]

theorem same_put {d : Nat} {v : AV} (hd : d ∉ rs) : Same rs st (st.put d v) := by
  intro n hn
  have hne : n ≠ d := fun e => hd (e ▸ hn)
  simp only [St.put, if_neg hne]
  generalize st.env n = x
  cases x with
  | w t want v =>
    simp only [AV.killW]
    by_cases h : t = d
    · subst h
      exact .inr ⟨_, _, _, hd, rfl, if_pos rfl⟩
    · exact .inl (if_neg h)
  | _ => exact .inl rfl
theorem same_env (h : st2.env = st.env) : Same rs st st2 := fun n _ => .inl (by rw [h])

theorem vRes_kill {i : AIns} {v : AV} (h : vRes call i st = some v) {e : Nat} (he : e ∉ i.reads) : v.killW e = v := by
  unfold vRes at h
  cases hg : i.g with
  | none =>
    simp only [hg, Option.map_eq_some_iff] at h
    obtain ⟨u, _, rfl⟩ := h
    cases u <;> rfl
  | some tw =>
    obtain ⟨t, want⟩ := tw
    have ht : t ∈ i.reads := by simp [AIns.reads, hg]
    have hte : t ≠ e := fun (e' : t = e) => he (e' ▸ ht)
    simp only [hg] at h
    (repeat' split at h) <;> first
      | (cases h; done)
      | (cases h; simp only [AV.killW]; rw [if_neg hte])
      | (simp only [Option.map_eq_some_iff] at h; obtain ⟨x, _, rfl⟩ := h; simp only [AV.killW]; rw [if_neg hte])
theorem killW_comm (v : AV) (d e : Nat) : (v.killW d).killW e = (v.killW e).killW d := by
  cases v <;> try rfl
  rename_i t want v
  by_cases h1 : t = d <;> by_cases h2 : t = e <;> simp [AV.killW, h1, h2] <;> (try subst h1) <;> (try subst h2) <;> simp_all [AV.killW]
theorem put_put {d e : Nat} {u v : AV} (hne : d ≠ e) (hv : v.killW e = v) (hu : u.killW d = u) : (st.put d v).put e u = (st.put e u).put d v := by
  simp only [St.put, St.mk.injEq, and_true]
  funext n
  by_cases h1 : n = d
  · subst h1
    simp [hne, hv]
  · by_cases h2 : n = e
    · subst h2
      simp [h1, hu]
    · simp [h1, h2, killW_comm]

/-! ### stores -/
theorem aStore_env (e : Nat → AV) (sz : Nat) (a x : AV) {st' : St} (h : aStore st sz a x = some st') : st'.env = st.env ∧ aStore ⟨e, st.seg⟩ sz a x = some ⟨e, st'.seg⟩ := by
  unfold aStore at h ⊢
  split at h
  · simp only at h ⊢
    split at h
    · rename_i hc
      rw [if_pos hc]
      split at h
      · rename_i hs
        split at h
        · rename_i hz
          try rw [if_pos hz]
          split at h
          · rename_i he
            try simp only [he]
            split at h
            · rename_i ho
              try rw [if_pos ho]
              split at h
              · rename_i hd
                cases h
                exact ⟨rfl, by first | rfl | (simp only [hd]; rfl)⟩
              · rename_i hd
                cases h
                exact ⟨rfl, by first | rfl | (simp only [hd]; rfl)⟩
            · cases h
          · cases h
        · cases h
      · rename_i hs
        split at h
        · rename_i hz
          try rw [if_pos hz]
          split at h
          · rename_i he
            try simp only [he]
            split at h
            · rename_i ho
              try rw [if_pos ho]
              cases h
              exact ⟨rfl, rfl⟩
            · cases h
          · cases h
        · cases h
      · cases h
    · cases h
  · cases h
theorem aStore_at {sz s sz' i off : Nat} {x : AV} {st' : St} (h : aStore st sz (.ptr s sz' i off) x = some st') {n : Nat} (hn : n ≠ s) : st'.seg n = st.seg n := by
  unfold aStore at h
  simp only at h
  (repeat' split at h) <;> first | cases h; done | (cases h; simp [St.upd, hn])

/-! ### changing places -/
theorem cls_op {i : AIns} (h : i.cls = .p ∨ i.cls = .r ∨ i.cls = .s) : i.e = false ∧ i.op.cls = i.cls := by
  unfold AIns.cls at h ⊢
  cases he : i.e with
  | true => simp [he] at h
  | false => exact ⟨rfl, rfl⟩
theorem dStep_v {i : AIns} (h : i.cls = .p ∨ i.cls = .r) : dStep call i st = vStep call i st := by
  obtain ⟨he, hc⟩ := cls_op (i := i) (by rcases h with h | h <;> simp [h])
  rw [← hc] at h
  unfold dStep
  rw [he]
  simp only [Bool.false_eq_true, if_false]
  split
  · rename_i he
    rw [he] at h
    simp [AOp.cls] at h
  · rfl
theorem dStep_s {i : AIns} (h : i.cls = .s) {st' : St} (hs : dStep call i st = some st') : ∃ sz a x, i.op = .store sz a x ∧ i.g = none ∧ i.dst = none ∧ i.e = false ∧ aStore st sz (a.ev st) (x.ev st) = some st' := by
  obtain ⟨he, hc⟩ := cls_op (i := i) (by simp [h])
  rw [← hc] at h
  unfold dStep at hs
  rw [he] at hs
  simp only [Bool.false_eq_true, if_false] at hs
  split at hs
  · rename_i sz a x he0
    split at hs
    · rename_i h1 h2
      exact ⟨sz, a, x, he0, h1, h2, he, hs⟩
    · cases hs
  · rename_i hne
    cases hop : i.op <;> simp [hop, AOp.cls] at h
    exact absurd hop (hne _ _ _)
theorem vStep_eq {i : AIns} {st' : St} (h : vStep call i st = some st') : ∃ d v, i.dst = some d ∧ vRes call i st = some v ∧ st' = st.put d v := by
  unfold vStep at h
  split at h
  · rename_i d hd
    simp only [Option.map_eq_some_iff] at h
    obtain ⟨v, hv, rfl⟩ := h
    exact ⟨d, v, hd, hv, rfl⟩
  · cases h
theorem apart_spec {x y : AIns} (h : apartI x y = true) : (∀ d, x.dst = some d → d ∉ y.reads ∧ y.dst ≠ some d) ∧ ∀ d, y.dst = some d → d ∉ x.reads := by
  refine ⟨fun d hd => ?_, fun d hd => ?_⟩ <;> simp [apartI, hd] at h
  · exact ⟨h.1.1, fun e => h.1.2 e⟩
  · exact h.2


/-! ### a site that nothing names -/
structure St.No (t : Nat) (st : St) : Prop where
  env : ∀ n, (st.env n).has t = false
  seg : ∀ n o, st.seg n = some o → o.has t = false
  free : st.seg t = none
theorem hasL_iff {t : Nat} : ∀ {l : List AV}, hasL t l = false ↔ ∀ c ∈ l, c.has t = false
  | [] => by simp [hasL]
  | x :: l => by simp only [hasL, Bool.or_eq_false_iff, hasL_iff (l := l), List.mem_cons, forall_eq_or_imp]
theorem has_strip {t : Nat} {v : AV} (h : v.has t = false) : v.strip.has t = false := by
  cases v <;> first | exact h | rfl
theorem has_kill {t : Nat} {v : AV} (h : v.has t = false) : v.kill t = v := by simp [AV.kill, h]
theorem ob_kill {t : Nat} {o : Ob} (h : o.has t = false) : o.kill t = some o := by simp [Ob.kill, h]
theorem has_kill2 {t s : Nat} {v : AV} (h : v.has t = false) : (v.kill s).has t = false := by
  unfold AV.kill
  split
  · rfl
  · exact h
theorem has_killW {t d : Nat} {v : AV} (h : v.has t = false) : (v.killW d).has t = false := by
  cases v <;> first | exact h | skip
  simp only [AV.killW]
  split
  · rfl
  · exact h
theorem has_un {t d : Nat} {want : Bool} {v : AV} (h : v.has t = false) : (v.un d want).has t = false := by
  cases v <;> first | exact h | skip
  simp only [AV.un]
  split
  · exact has_strip h
  · exact h
theorem ob_kill2 {t s : Nat} {o o' : Ob} (h : o.has t = false) (hk : o.kill s = some o') : o'.has t = false := by
  unfold Ob.kill at hk
  split at hk <;> cases hk
  exact h
section
variable {t : Nat}
theorem St.No.ev (h : st.No t) (x : AX) : (x.ev st).has t = false := by
  cases x with
  | t n => exact has_strip (h.env n)
  | k c => rfl
  | fn g => rfl
theorem St.No.under (h : st.No t) (d : Nat) (want : Bool) : (st.under d want).No t := ⟨fun n => has_un (h.env n), h.seg, h.free⟩
theorem St.No.put (h : st.No t) {d : Nat} {v : AV} (hv : v.has t = false) : (st.put d v).No t := ⟨fun n => by
  simp only [St.put]
  split
  · exact hv
  · exact has_killW (h.env n), h.seg, h.free⟩
theorem St.No.upd (h : st.No t) {s : Nat} {o : Ob} (hs : s ≠ t) (ho : o.has t = false) : (st.upd s o).No t := ⟨h.env, fun n o' hn => by
  simp only [St.upd] at hn
  split at hn
  · cases hn; exact ho
  · exact h.seg n o' hn, by simp only [St.upd, if_neg (Ne.symm hs)]; exact h.free⟩
theorem St.No.at_ (h : st.No t) {s : Nat} {o : Ob} (hs : s ≠ t) (ho : o.has t = false) : (st.at_ s o).No t := ⟨fun n => has_kill2 (h.env n), fun n o' hn => by
  simp only [St.at_] at hn
  split at hn
  · cases hn; exact ho
  · simp only [Option.bind_eq_some_iff] at hn
    obtain ⟨o1, h1, h2⟩ := hn
    exact ob_kill2 (h.seg n o1 h1) h2, by simp only [St.at_, if_neg (Ne.symm hs), h.free]; rfl⟩
theorem St.No.drop (h : st.No t) (s : Nat) : (st.drop s).No t := ⟨h.env, fun n o hn => by
  simp only [St.drop] at hn
  split at hn
  · cases hn
  · exact h.seg n o hn, by simp only [St.drop]; split <;> first | rfl | exact h.free⟩
theorem St.No.lose (h : st.No t) (s : Nat) : (st.lose s).No t := ⟨fun n => has_kill2 (h.env n), fun n o hn => by
  simp only [St.lose] at hn
  split at hn
  · cases hn
  · simp only [Option.bind_eq_some_iff] at hn
    obtain ⟨o1, h1, h2⟩ := hn
    exact ob_kill2 (h.seg n o1 h1) h2, by simp only [St.lose, h.free]; split <;> rfl⟩
theorem St.No.at_eq (h : st.No t) (o : Ob) : st.at_ t o = { env := st.env, seg := fun n => if n = t then some o else st.seg n } := by
  simp only [St.at_, St.mk.injEq]
  refine ⟨funext fun n => has_kill (h.env n), funext fun n => ?_⟩
  split
  · rfl
  · cases hs : st.seg n with
    | none => rfl
    | some o1 => exact ob_kill (h.seg n o1 hs)
theorem St.No.cells {v : AV} (h : v.has t = false) : ∀ c ∈ v.cells, c.has t = false := by
  cases v with
  | d x =>
    cases x <;> intro c hc <;> simp only [AV.cells, List.mem_singleton, List.mem_map] at hc
    all_goals first
      | (subst hc; rfl)
      | (obtain ⟨d, _, rfl⟩ := hc; rfl)
  | agg cs => exact hasL_iff.1 h
  | _ =>
    intro c hc
    simp only [AV.cells, List.mem_singleton] at hc
    subst hc
    exact h
theorem St.No.hypL : ∀ {up : List (Nat × Bool)} {d : Nat} {want : Bool} {g : St}, st.No t → st.hypL d want up = some g → g.No t
  | [], d, want, g, h, hg => by
    simp only [St.hypL] at hg
    split at hg <;> cases hg
    exact h.under _ _
  | (d', want') :: up, d, want, g, h, hg => by
    simp only [St.hypL] at hg
    split at hg
    · cases hg
      exact h.under _ _
    · split at hg
      · simp only [Option.map_eq_some_iff] at hg
        obtain ⟨g1, h1, rfl⟩ := hg
        exact (St.No.hypL h h1).under _ _
      · cases hg
    · cases hg
theorem splice_no {cells cs : List AV} {off : Nat} (h1 : ∀ c ∈ cells, c.has t = false) (h2 : ∀ c ∈ cs, c.has t = false) : ∀ c ∈ splice cells off cs, c.has t = false := by
  intro c hc
  simp only [splice, List.mem_append] at hc
  rcases hc with (hc | hc) | hc
  · exact h1 c (List.mem_of_mem_take hc)
  · exact h2 c hc
  · exact h1 c (List.mem_of_mem_drop hc)
theorem St.No.fill (h : st.No t) : ∀ {parts : List (Nat × Nat × AX)} {cells r : List AV}, (∀ c ∈ cells, c.has t = false) → aFill st cells parts = some r → ∀ c ∈ r, c.has t = false
  | [], cells, r, hc, hr => by simp only [aFill, Option.some.injEq] at hr; subst hr; exact hc
  | (off, size, x) :: parts, cells, r, hc, hr => by
    simp only [aFill] at hr
    split at hr
    · exact St.No.fill h (splice_no hc (St.No.cells (h.ev x))) hr
    · cases hr
theorem packA_no {cs : List AV} (h : ∀ c ∈ cs, c.has t = false) : (packA cs).has t = false := by
  unfold packA
  split
  · rfl
  · exact hasL_iff.2 h
theorem aLoad_no (h : st.No t) {g : Bool} {sz : Nat} {v u : AV} (hu : aLoad st g sz v = some u) : u.has t = false := by
  have hd : ∀ {off : Nat} {e : List DV}, valD g sz off e = some u → u.has t = false := by
    intro off e hv
    unfold valD at hv
    split at hv
    · split at hv <;> cases hv
      rfl
    · simp only [Option.map_eq_some_iff] at hv
      obtain ⟨c, _, rfl⟩ := hv
      rfl
  have ha : ∀ {off : Nat} {e : List AV}, (∀ c ∈ e, c.has t = false) → valA g sz off e = some u → u.has t = false := by
    intro off e he hv
    unfold valA at hv
    split at hv
    · split at hv <;> cases hv
      exact hasL_iff.2 fun c hc => he c (List.mem_of_mem_drop (List.mem_of_mem_take hc))
    · exact he u (List.mem_of_getElem? hv)
  unfold aLoad at hu
  split at hu
  · exact hd hu
  · rename_i s sz' i off
    split at hu
    · split at hu
      · simp only [Option.bind_eq_some_iff] at hu
        obtain ⟨e, _, h2⟩ := hu
        exact hd h2
      · cases hu
    · rename_i el sz'' es hseg
      split at hu
      · simp only [Option.bind_eq_some_iff] at hu
        obtain ⟨e, he, h2⟩ := hu
        have ho := h.seg _ _ hseg
        simp only [Ob.has, List.any_eq_false, Bool.not_eq_true] at ho
        exact ha (hasL_iff.1 (ho e (List.mem_of_getElem? he))) h2
      · cases hu
    · cases hu
  · cases hu
theorem fold_no {f : Option AV → AV → Option AV} (hf : ∀ a b u, f a b = some u → u.has t = false) : ∀ (l : List AV) (a : Option AV) (u : AV), (∀ v, a = some v → v.has t = false) → l.foldl f a = some u → u.has t = false
  | [], a, u, ha, h => ha u h
  | x :: l, a, u, ha, h => fold_no hf l _ u (fun v hv => hf _ _ _ hv) h
theorem aVal_no (h : st.No t) {op : AOp} {v : AV} (hv : aVal st op = some v) : v.has t = false := by
  cases op <;> simp only [aVal] at hv <;> try (cases hv; done)
  case mv x => cases hv; exact h.ev x
  case pick c a b =>
    (repeat' split at hv) <;> first
      | (cases hv; done)
      | (cases hv; rfl)
      | (cases hv; exact (h.under _ _).ev _)
  case build z parts =>
    simp only [Option.map_eq_some_iff] at hv
    obtain ⟨r, hr, rfl⟩ := hv
    exact packA_no (St.No.fill h (fun c hc => by obtain ⟨d, _, rfl⟩ := List.mem_map.1 hc; rfl) hr)
  case load g sz x z =>
    simp only [Option.bind_eq_some_iff] at hv
    obtain ⟨u, hu, hc⟩ := hv
    rw [chk_eq hc]
    exact aLoad_no h hu
  case bin op x y =>
    unfold aBin at hv
    split at hv
    · split at hv
      · simp only [Option.map_eq_some_iff] at hv
        obtain ⟨_, _, rfl⟩ := hv
        rfl
      · cases hv
    · cases hv
  case eqb =>
    unfold aEqb at hv
    split at hv <;> cases hv
    rfl
  case eqs =>
    unfold aEqs at hv
    split at hv
    · split at hv
      · simp only [Option.map_eq_some_iff] at hv
        obtain ⟨_, _, rfl⟩ := hv
        rfl
      · cases hv
    · cases hv
  case shf =>
    unfold aShift at hv
    split at hv
    · simp only [Option.map_eq_some_iff] at hv
      obtain ⟨_, _, rfl⟩ := hv
      rfl
    · cases hv
  case un =>
    unfold aUn at hv
    (repeat' split at hv) <;> first | (cases hv; done) | (cases hv; rfl)
  case conv =>
    unfold aConv at hv
    split at hv <;> cases hv
    rfl
  case faddr off x =>
    have hx := h.ev x
    unfold aFaddr at hv
    split at hv
    · cases hv; rfl
    · rename_i he
      rw [he] at hx
      cases hv
      simpa only [AV.has] using hx
    · cases hv
  case iaddr sz x i z =>
    simp only [Option.bind_eq_some_iff] at hv
    obtain ⟨u, hu, hc⟩ := hv
    rw [chkR_eq hc]
    have hx := h.ev x
    unfold aIaddr at hu
    split at hu
    · split at hu
      · simp only [Option.map_eq_some_iff] at hu
        obtain ⟨_, _, rfl⟩ := hu
        rfl
      · cases hu
    · split at hu
      · simp only [Option.map_eq_some_iff] at hu
        obtain ⟨_, _, rfl⟩ := hu
        rfl
      · cases hu
    · rename_i he _
      rw [he] at hx
      split at hu <;> cases hu
      simpa only [AV.has] using hx
    · cases hu
  case slice sz x lo hi mx =>
    have hx := h.ev x
    unfold aSlice at hv
    split at hv
    · dsimp only at hv
      split at hv
      · split at hv <;> cases hv
        rfl
      · split at hv
        · split at hv
          · cases hv; rfl
          · split at hv <;> cases hv
            rfl
        · cases hv
      · split at hv
        · split at hv
          · cases hv; rfl
          · split at hv <;> cases hv
            rfl
        · cases hv
      · rename_i he
        rw [he] at hx
        split at hv <;> cases hv
        simpa only [AV.has] using hx
      · cases hv
    · cases hv
  case ext x i =>
    have hx := h.ev x
    unfold aExt at hv
    split at hv
    · rename_i he
      rw [he] at hx
      exact hasL_iff.1 hx v (List.mem_of_getElem? hv)
    · simp only [Option.map_eq_some_iff] at hv
      obtain ⟨_, _, rfl⟩ := hv
      rfl
    · cases hv
  case len =>
    unfold aLen at hv
    split at hv <;> cases hv <;> rfl
  case mx xs =>
    have hxs : ∀ c ∈ xs.map (·.ev st), c.has t = false := fun c hc => by
      obtain ⟨x, _, rfl⟩ := List.mem_map.1 hc
      exact h.ev x
    unfold intMax at hv
    split at hv
    · cases hv
    · rename_i u l hl
      refine fold_no (fun a b u hu => ?_) l (some u) v (fun w hw => by cases hw; exact hxs u (by rw [hl]; simp)) hv
      split at hu
      · split at hu <;> cases hu
        rfl
      · cases hu
  case mn xs =>
    have hxs : ∀ c ∈ xs.map (·.ev st), c.has t = false := fun c hc => by
      obtain ⟨x, _, rfl⟩ := List.mem_map.1 hc
      exact h.ev x
    unfold intMin at hv
    split at hv
    · cases hv
    · rename_i u l hl
      refine fold_no (fun a b u hu => ?_) l (some u) v (fun w hw => by cases hw; exact hxs u (by rw [hl]; simp)) hv
      split at hu
      · split at hu <;> cases hu
        rfl
      · cases hu
  case mkfn f caps =>
    cases hv
    split
    · rfl
    · exact hasL_iff.2 fun c hc => by
        obtain ⟨x, _, rfl⟩ := List.mem_map.1 hc
        exact h.ev x
  case eqnil =>
    unfold aNil at hv
    split at hv <;> cases hv <;> rfl
theorem gVal_no (h : st.No t) {op : AOp} {v : AV} (hv : gVal call op st = some v) : v.has t = false := by
  cases op <;> simp only [gVal] at hv <;> first
    | exact aVal_no h hv
    | ((repeat' split at hv) <;> first | (cases hv; done) | (cases hv; rfl))
theorem vRes_no (h : st.No t) {i : AIns} {v : AV} (hv : vRes call i st = some v) : v.has t = false := by
  unfold vRes at hv
  split at hv
  · simp only [Option.map_eq_some_iff] at hv
    obtain ⟨u, hu, rfl⟩ := hv
    exact has_strip (gVal_no h hu)
  · split at hv
    · rename_i g hg
      have hN := h.hypL hg
      split at hv
      · split at hv
        · rename_i u hu
          cases hv
          simp only [AV.has]
          exact gVal_no hN hu
        · split at hv <;> cases hv
          rfl
      · split at hv
        · cases hv
          rfl
        · simp only [Option.map_eq_some_iff] at hv
          obtain ⟨u, hu, rfl⟩ := hv
          simp only [AV.has]
          exact gVal_no hN hu
    · cases hv
theorem mkOb_no {el sz : Nat} {rows : List (List AV)} (h : ∀ e ∈ rows, ∀ c ∈ e, c.has t = false) : (mkOb el sz rows).has t = false := by
  unfold mkOb
  split
  · rfl
  · simp only [Ob.has, List.any_eq_false, Bool.not_eq_true]
    exact fun e he => hasL_iff.2 (h e he)
theorem rowsSet_no (h : st.No t) {sz : Nat} : ∀ {parts : List (Nat × AX)} {rows r : List (List AV)}, (∀ e ∈ rows, ∀ c ∈ e, c.has t = false) → rowsSet st sz rows parts = some r → ∀ e ∈ r, ∀ c ∈ e, c.has t = false
  | [], rows, r, hr, he => by simp only [rowsSet, Option.some.injEq] at he; subst he; exact hr
  | (i, x) :: parts, rows, r, hr, he => by
    simp only [rowsSet] at he
    split at he
    · refine rowsSet_no h (fun e hm => ?_) he
      rcases List.mem_or_eq_of_mem_set hm with hm | rfl
      · exact hr e hm
      · exact St.No.cells (h.ev x)
    · cases he
theorem aStore_no (h : st.No t) {sz : Nat} {a x : AV} (ha : a.has t = false) (hx : x.has t = false) {st' : St} (hs : aStore st sz a x = some st') : st'.No t := by
  unfold aStore at hs
  split at hs
  · rename_i s sz' i off
    have hne : s ≠ t := by simpa [AV.has] using ha
    simp only at hs
    split at hs
    · split at hs
      · split at hs
        · split at hs
          · split at hs
            · split at hs
              · cases hs
                exact h.upd hne rfl
              · cases hs
                refine h.upd hne ?_
                simp only [Ob.has, List.any_eq_false, Bool.not_eq_true]
                intro e he
                refine hasL_iff.2 ?_
                rcases List.mem_or_eq_of_mem_set he with he | rfl
                · obtain ⟨e0, _, rfl⟩ := List.mem_map.1 he
                  intro c hc
                  obtain ⟨d, _, rfl⟩ := List.mem_map.1 hc
                  rfl
                · exact splice_no (fun c hc => by obtain ⟨d, _, rfl⟩ := List.mem_map.1 hc; rfl) (St.No.cells hx)
            · cases hs
          · cases hs
        · cases hs
      · rename_i el sz'' es hseg
        split at hs
        · split at hs
          · rename_i e0 he0
            split at hs
            · cases hs
              have ho := h.seg _ _ hseg
              simp only [Ob.has, List.any_eq_false, Bool.not_eq_true] at ho
              refine h.upd hne ?_
              simp only [Ob.has, List.any_eq_false, Bool.not_eq_true]
              intro e he
              refine hasL_iff.2 ?_
              rcases List.mem_or_eq_of_mem_set he with he | rfl
              · exact hasL_iff.1 (ho e he)
              · exact splice_no (hasL_iff.1 (ho e0 (List.mem_of_getElem? he0))) (St.No.cells hx)
            · cases hs
          · cases hs
        · cases hs
      · cases hs
    · cases hs
  · cases hs
theorem placeI_no {d : Nat} (ht : t < 50000) : ∀ (l : List DV) (j : Nat) (s : St), 1 ≤ j → s.No t → (placeI d j l s).2.No t ∧ ∀ c ∈ (placeI d j l s).1, c.has t = false
  | [], j, s, _, h => ⟨h, by simp [placeI]⟩
  | x :: l, j, s, hj, h => by
    have other : ∀ y : DV, (placeI d (j + 1) l s).2.No t ∧ ∀ c ∈ AV.d y :: (placeI d (j + 1) l s).1, c.has t = false := fun y => by
      obtain ⟨h1, h2⟩ := placeI_no (d := d) ht l (j + 1) s (by omega) h
      refine ⟨h1, fun c hc => ?_⟩
      rcases List.mem_cons.1 hc with rfl | hc
      · rfl
      · exact h2 c hc
    cases x with
    | sl q sz es =>
      cases q with
      | own el =>
        have hne : d + 100000 * j ≠ t := by omega
        obtain ⟨h1, h2⟩ := placeI_no (d := d) ht l (j + 1) _ (by omega) (h.at_ (s := d + 100000 * j) (o := .dat el sz es) hne rfl)
        refine ⟨h1, fun c hc => ?_⟩
        simp only [placeI] at hc
        rcases List.mem_cons.1 hc with rfl | hc
        · simpa [AV.has] using hne
        · exact h2 c hc
      | _ => exact other _
    | _ => exact other _
theorem placeR_no {d : Nat} (ht : t < 50000) : ∀ (es : List (List DV)) (j : Nat) (s : St), 1 ≤ j → s.No t → (placeR d j es s).2.No t ∧ ∀ e ∈ (placeR d j es s).1, ∀ c ∈ e, c.has t = false
  | [], j, s, _, h => ⟨h, by simp [placeR]⟩
  | x :: es, j, s, hj, h => by
    obtain ⟨h1, h2⟩ := placeI_no (d := d) ht x j s hj h
    obtain ⟨h3, h4⟩ := placeR_no (d := d) ht es (j + x.length) _ (by omega) h1
    refine ⟨h3, fun e he => ?_⟩
    rcases List.mem_cons.1 (show e ∈ (placeI d j x s).1 :: (placeR d (j + x.length) es (placeI d j x s).2).1 from he) with rfl | he
    · exact h2
    · exact h4 e he
theorem placeL_no {d : Nat} (ht : t < 50000) : ∀ (l : List DV) (j : Nat) (s : St), 1 ≤ j → s.No t → (placeL d j l s).2.No t ∧ ∀ c ∈ (placeL d j l s).1, c.has t = false
  | [], j, s, _, h => ⟨h, by simp [placeL]⟩
  | x :: l, j, s, hj, h => by
    have other : ∀ y : DV, (placeL d (j + 1) l s).2.No t ∧ ∀ c ∈ AV.d y :: (placeL d (j + 1) l s).1, c.has t = false := fun y => by
      obtain ⟨h1, h2⟩ := placeL_no (d := d) ht l (j + 1) s (by omega) h
      refine ⟨h1, fun c hc => ?_⟩
      rcases List.mem_cons.1 hc with rfl | hc
      · rfl
      · exact h2 c hc
    cases x with
    | sl q sz es =>
      cases q with
      | own el =>
        have hne : d + 100000 * j ≠ t := by omega
        obtain ⟨h1, h2⟩ := placeL_no (d := d) ht l (j + 1) _ (by omega) (h.at_ (s := d + 100000 * j) (o := .dat el sz es) hne rfl)
        refine ⟨h1, fun c hc => ?_⟩
        simp only [placeL] at hc
        rcases List.mem_cons.1 hc with rfl | hc
        · simpa [AV.has] using hne
        · exact h2 c hc
      | own2 el =>
        have hne : d + 100000 * j ≠ t := by omega
        obtain ⟨h3, h4⟩ := placeR_no (d := d) ht es (j + 1) s (by omega) h
        have hno : (Ob.mix el sz (placeR d (j + 1) es s).1).has t = false := by
          simp only [Ob.has, List.any_eq_false, Bool.not_eq_true]
          exact fun e he => hasL_iff.2 (h4 e he)
        obtain ⟨h1, h2⟩ := placeL_no (d := d) ht l (j + 1 + cellsN es) _ (by omega) (h3.at_ (s := d + 100000 * j) (o := .mix el sz (placeR d (j + 1) es s).1) hne hno)
        refine ⟨h1, fun c hc => ?_⟩
        simp only [placeL] at hc
        rcases List.mem_cons.1 hc with rfl | hc
        · simpa [AV.has] using hne
        · exact h2 c hc
      | _ => exact other _
    | _ => exact other _
theorem place_no {d : Nat} (ht : t < 50000) (hd : d ≠ t) {r : DV} {s : St} (h : s.No t) : (place d r s).No t := by
  have other : (s.put d (.d r)).No t := h.put rfl
  unfold place
  split
  · exact (h.at_ hd rfl).put (by simpa [AV.has] using hd)
  · rename_i el sz es
    obtain ⟨h1, h2⟩ := placeL_no (d := d) ht [.sl (.own2 el) sz es] 1 s (by omega) h
    refine h1.put ?_
    generalize (placeL d 1 [DV.sl (.own2 el) sz es] s).1 = l at *
    cases l with
    | nil => rfl
    | cons c l => exact h2 c (by simp)
  · split
    · obtain ⟨h1, h2⟩ := placeL_no (d := d) ht _ 1 s (by omega) h
      exact h1.put (hasL_iff.2 h2)
    · exact h.put rfl
  · split
    · obtain ⟨h1, h2⟩ := placeL_no (d := d) ht _ 1 s (by omega) h
      exact h1.put (hasL_iff.2 h2)
    · exact h.put rfl
  · exact other
theorem alt_ne {s d : Nat} (ht : t < 50000) (hd : d ≠ t) : alt s d ≠ t := by
  unfold alt
  cases Nat.beq s d
  · exact hd
  · simp only [cond_true]
    omega
theorem append_no (h : st.No t) (ht : t < 50000) {d el sz b : Nat} (hd : d ≠ t) {x y : AV} (hx : x.has t = false) {st' : St} (hs : aAppend st d el sz b x y = some st') : st'.No t := by
  have hd' : (AV.aref d sz 0 0).has t = false := by simpa [AV.has] using hd
  unfold aAppend at hs
  (repeat' split at hs) <;> first
    | (cases hs; done)
    | (cases hs; exact h.put hx)
    | (cases hs; exact (h.at_ hd rfl).put hd')
    | (cases hs; exact ((h.drop _).at_ (alt_ne ht hd) rfl).put (by simpa [AV.has] using alt_ne ht hd))
theorem eStep_no (h : st.No t) (ht : t < 50000) {dst : Option Nat} {op : AOp} (hd : dst ≠ some t) {st' : St} (hs : eStep call dst op st = some st') : st'.No t := by
  have val : ∀ d, dst = some d → (aVal st op).map (fun v => st.put d v.strip) = some st' → st'.No t := fun d _ hv => by
    simp only [Option.map_eq_some_iff] at hv
    obtain ⟨v, hv, rfl⟩ := hv
    exact h.put (has_strip (aVal_no h hv))
  cases dst with
  | none =>
    cases op <;> simp only [eStep, opStep] at hs <;> first
      | (cases hs; done)
      | exact aStore_no h (h.ev _) (h.ev _) hs
  | some d =>
    have hd' : d ≠ t := fun e => hd (by rw [e])
    cases op <;> simp only [eStep, opStep] at hs <;> try (first | (cases hs; done) | exact val d rfl hs)
    case box el sz x =>
      split at hs <;> cases hs
      refine (h.at_ hd' (mkOb_no fun e he c hc => ?_)).put (by simpa [AV.has] using hd')
      simp only [List.mem_singleton] at he
      subst he
      exact St.No.cells (h.ev x) c hc
    case alloc el sz z =>
      split at hs <;> cases hs
      exact (h.at_ hd' rfl).put (by simpa [AV.has] using hd')
    case bslice el sz len z parts =>
      split at hs
      · split at hs
        · rename_i rows hr
          split at hs <;> cases hs
          refine (h.at_ hd' (mkOb_no (rowsSet_no h (fun e he c hc => ?_) hr))).put (by simpa [AV.has] using hd')
          rw [List.mem_replicate] at he
          obtain ⟨_, rfl⟩ := he
          obtain ⟨d, _, rfl⟩ := List.mem_map.1 hc
          rfl
        · cases hs
      · cases hs
    case mkslice el sz bytes z l c =>
      split at hs
      · split at hs <;> cases hs
        exact (h.at_ hd' rfl).put (by simpa [AV.has] using hd')
      · cases hs
    case append el sz bytes x y => exact append_no h ht hd' (h.ev x) hs
    case call f args =>
      split at hs
      · simp only [Option.bind_eq_some_iff] at hs
        obtain ⟨r, _, hr⟩ := hs
        split at hr <;> cases hr
        exact place_no ht hd' h
      · cases hs
    case mcall f x args =>
      split at hs
      · split at hs
        · split at hs
          · split at hs
            · simp only [Option.map_eq_some_iff] at hs
              obtain ⟨r, _, rfl⟩ := hs
              exact place_no ht hd' (h.lose _)
            · cases hs
          · cases hs
        · cases hs
      · split at hs
        · simp only [Option.bind_eq_some_iff] at hs
          obtain ⟨r, _, hr⟩ := hs
          split at hr <;> cases hr
          exact place_no ht hd' h
        · cases hs
      · cases hs
theorem dStep_no (h : st.No t) (ht : t < 50000) {i : AIns} (hd : i.dst ≠ some t) {st' : St} (hs : dStep call i st = some st') : st'.No t := by
  unfold dStep at hs
  split at hs
  · exact eStep_no h ht hd hs
  · split at hs
    · split at hs
      · exact aStore_no h (h.ev _) (h.ev _) hs
      · cases hs
    · obtain ⟨d, v, _, hv, rfl⟩ := vStep_eq hs
      exact h.put (vRes_no h hv)
end
theorem swap_vv {x y : AIns} (ha : apartI x y = true) {s s1 s2 : St} (hx : vStep call x s = some s1) (hy : vStep call y s1 = some s2) :
    ∃ s1', vStep call y s = some s1' ∧ vStep call x s1' = some s2 := by
  obtain ⟨h1, h2⟩ := apart_spec ha
  obtain ⟨d, v, hd, hv, rfl⟩ := vStep_eq hx
  obtain ⟨e, u, he, hu, rfl⟩ := vStep_eq hy
  have hd' := h1 d hd
  have he' := h2 e he
  rw [vRes_same (same_put hd'.1) (.inr rfl)] at hu
  refine ⟨s.put e u, by simp only [vStep, he, hu, Option.map_some], ?_⟩
  have hx' : vRes call x (s.put e u) = some v := by rw [vRes_same (same_put he') (.inr rfl), hv]
  simp only [vStep, hd, hx', Option.map_some]
  rw [put_put (fun h => hd'.2 (by rw [he, h])) (vRes_kill hv he') (vRes_kill hu hd'.1)]

theorem swap_ps {x y : AIns} (ha : apartI x y = true) (hp : x.cls = .p) (hs : y.cls = .s) {s s1 s2 : St} (hx : dStep call x s = some s1) (hy : dStep call y s1 = some s2) :
    ∃ s1', dStep call y s = some s1' ∧ dStep call x s1' = some s2 := by
  obtain ⟨h1, h2⟩ := apart_spec ha
  rw [dStep_v (.inl hp)] at hx
  obtain ⟨d, v, hd, hv, rfl⟩ := vStep_eq hx
  obtain ⟨sz, a, b, hop, hg, hdst, hye, hst⟩ := dStep_s hs hy
  have hd' := h1 d hd
  have hea : a.ev (s.put d v) = a.ev s := (same_put (rs := y.reads) hd'.1).ev fun n hn => by simp [AIns.reads, hop, AOp.reads, hn]
  have heb : b.ev (s.put d v) = b.ev s := (same_put (rs := y.reads) hd'.1).ev fun n hn => by simp [AIns.reads, hop, AOp.reads, hn]
  rw [hea, heb] at hst
  obtain ⟨g1, g2⟩ := aStore_env s.env _ _ _ hst
  refine ⟨⟨s.env, s2.seg⟩, ?_, ?_⟩
  · simp only [dStep, hye, Bool.false_eq_true, if_false, hop, hg, hdst]
    exact g2
  · rw [dStep_v (.inl hp)]
    have hx' : vRes call x ⟨s.env, s2.seg⟩ = some v := (vRes_same (same_env (st := s) (st2 := ⟨s.env, s2.seg⟩) rfl) (.inl ((cls_op (.inl hp)).2.trans hp))).trans hv
    simp only [vStep, hd, hx', Option.map_some]
    obtain ⟨e2, g⟩ := s2
    simp only at g1
    subst g1
    rfl
theorem swap_sp {x y : AIns} (ha : apartI x y = true) (hs : x.cls = .s) (hp : y.cls = .p) {s s1 s2 : St} (hx : dStep call x s = some s1) (hy : dStep call y s1 = some s2) :
    ∃ s1', dStep call y s = some s1' ∧ dStep call x s1' = some s2 := by
  obtain ⟨h1, h2⟩ := apart_spec ha
  obtain ⟨sz, a, b, hop, hg, hdst, hye, hst⟩ := dStep_s hs hx
  rw [dStep_v (.inl hp)] at hy
  obtain ⟨d, v, hd, hv, rfl⟩ := vStep_eq hy
  have hd' := h2 d hd
  have henv := (aStore_env s.env _ _ _ hst).1
  have hv' : vRes call y s = some v := (vRes_same (same_env (st := s) henv) (.inl ((cls_op (.inl hp)).2.trans hp))).symm.trans hv
  refine ⟨s.put d v, by rw [dStep_v (.inl hp)]; simp only [vStep, hd, hv', Option.map_some], ?_⟩
  have hea : a.ev (s.put d v) = a.ev s := (same_put (rs := x.reads) hd').ev fun n hn => by simp [AIns.reads, hop, AOp.reads, hn]
  have heb : b.ev (s.put d v) = b.ev s := (same_put (rs := x.reads) hd').ev fun n hn => by simp [AIns.reads, hop, AOp.reads, hn]
  simp only [dStep, hye, Bool.false_eq_true, if_false, hop, hg, hdst, hea, heb]
  have := (aStore_env (s.put d v).env _ _ _ hst).2
  rw [show (⟨(s.put d v).env, s.seg⟩ : St) = s.put d v from rfl] at this
  rw [this]
  simp only [St.put, henv]

theorem swap_dyn {x y : AIns} {p : Nat × Nat} (hd : dynI x y = some p) {s s1 s2 : St} (hok : dynOk s p = true) (hx : dStep call x s = some s1) (hy : dStep call y s1 = some s2) :
    ∃ s1', dStep call y s = some s1' ∧ dStep call x s1' = some s2 := by
  unfold dynI at hd
  split at hd
  · rename_i g sz n szs m c hxg hxo hyg hyo
    split at hd
    · rename_i ha
      cases hd
      simp only [Bool.and_eq_true] at ha
      obtain ⟨ha, hxt, hyt⟩ := ha
      obtain ⟨h1, h2⟩ := apart_spec ha
      have hxe : x.e = false := by simp [AIns.e, hxt]
      have hyeF : y.e = false := by simp [AIns.e, hyt]
      have hxc : x.cls = .r := by simp only [AIns.cls, hxe, cond_false, hxo]; rfl
      rw [dStep_v (.inr hxc)] at hx
      obtain ⟨d, v, hdst, hv, rfl⟩ := vStep_eq hx
      obtain ⟨sz', a, b, hop, _, hyd, hye, hst⟩ := dStep_s (by simp only [AIns.cls, hyeF, cond_false, hyo]; rfl) hy
      rw [hyo] at hop
      cases hop
      have hd' := h1 d hdst
      have hea : (AX.t m).ev (s.put d v) = (AX.t m).ev s := (same_put (rs := y.reads) hd'.1).ev fun n hn => by simp only [AIns.reads, hyo, AOp.reads, List.mem_append]; exact .inr (.inr (.inl hn))
      have heb : c.ev (s.put d v) = c.ev s := (same_put (rs := y.reads) hd'.1).ev fun n hn => by simp [AIns.reads, hyo, AOp.reads, hn]
      rw [hea, heb] at hst
      obtain ⟨g1, g2⟩ := aStore_env s.env _ _ _ hst
      refine ⟨⟨s.env, s2.seg⟩, ?_, ?_⟩
      · simp only [dStep, hye, Bool.false_eq_true, if_false, hyo, hyg, hyd]
        exact g2
      · rw [dStep_v (.inr hxc)]
        have hx' : vRes call x ⟨s.env, s2.seg⟩ = vRes call x s := by
          simp only [vRes, hxg, hxo, gVal, aVal, AX.ev]
          congr 2
          unfold dynOk at hok
          split at hok
          · split at hok
            · rename_i h3
              rw [h3]
              exact aLoad_d _ _ _
            · cases hok
          split at hok
          · rename_i h3 _
            rw [h3]
            exact aLoad_d _ _ _
          · rename_i s0 _ _ _ s' _ _ _ h3 h4
            rw [h3]
            have hne : s0 ≠ s' := by simpa using hok
            simp only [AX.ev, h4, AV.strip] at hst
            have := aStore_at hst hne
            simp only [AV.strip, aLoad, this]
            rfl
          · cases hok
        rw [hv] at hx'
        simp only [vStep, hdst, hx', Option.map_some]
        obtain ⟨e2, g⟩ := s2
        simp only at g1
        subst g1
        rfl
    · cases hd
  · cases hd

/-- what is made at a site that nothing names, and a slot that is written: in either order -/
theorem at_put {d e : Nat} {o : Ob} {v p : AV} (h : st.No d) (hv : v.has d = false) (hne : e ≠ d) (hvk : v.killW d = v) (hpk : p.killW e = p) : ((st.put e v).at_ d o).put d p = ((st.at_ d o).put d p).put e v := by
  have h1 : (st.put e v).at_ d o = (st.at_ d o).put e v := by
    rw [h.at_eq, (h.put hv).at_eq]
    rfl
  rw [h1, put_put hne hvk hpk]
theorem make_put {op : AOp} (hop : op.free = true) {d e : Nat} {v : AV} (h : st.No d) (hv : v.has d = false) (hvk : v.killW d = v) (he : e ∉ op.reads) (hne : e ≠ d) :
    opStep call (some d) op (st.put e v) = (opStep call (some d) op st).map (·.put e v) := by
  have hs : Same op.reads st (st.put e v) := same_put he
  cases op <;> simp only [AOp.free, Bool.false_eq_true] at hop
  case box el sz x =>
    have hx : x.ev (st.put e v) = x.ev st := hs.ev fun n hn => by simpa [AOp.reads] using hn
    simp only [opStep, hx]
    split
    · rw [Option.map_some, at_put h hv hne hvk rfl]
    · rfl
  case alloc el sz z =>
    simp only [opStep]
    split
    · rw [Option.map_some, at_put h hv hne hvk rfl]
    · rfl
  case append el sz b x y =>
    have hx : x.ev (st.put e v) = x.ev st := hs.ev fun n hn => by simp [AOp.reads, hn]
    have hy : y.ev (st.put e v) = y.ev st := hs.ev fun n hn => by simp [AOp.reads, hn]
    have hxn := h.ev x
    simp only [opStep, hx, hy, aAppend]
    rw [show elems (st.put e v) sz (y.ev st) = elems st sz (y.ev st) from rfl]
    cases elems st sz (y.ev st) with
    | none => rfl
    | some news =>
      simp only
      split
      · split
        · rename_i hz; rw [Option.map_some, put_put hne hvk (by rw [hz]; rfl)]
        · rename_i hz; rw [Option.map_some, put_put hne hvk (by rw [hz]; rfl)]
        · rename_i hz; rw [Option.map_some, put_put hne hvk (by rw [hz]; rfl)]
        · rename_i hz; rw [Option.map_some, put_put hne hvk (by rw [hz]; rfl)]
        · rfl
      · split
        · split
          · split
            · rw [Option.map_some, at_put h hv hne hvk rfl]
            · rfl
          · split
            · rw [Option.map_some, at_put h hv hne hvk rfl]
            · rfl
          · split
            · rw [Option.map_some, at_put h hv hne hvk rfl]
            · rfl
          · rename_i s sz' off len hz
            rw [hz] at hxn
            have hsd : s ≠ d := by simpa [AV.has] using hxn
            have halt : alt s d = d := by
              unfold alt
              rw [show Nat.beq s d = false from by cases hb : Nat.beq s d with | false => rfl | true => exact absurd (Nat.eq_of_beq_eq_true hb) hsd]
              rfl
            rw [halt, show (st.put e v).seg s = st.seg s from rfl]
            split
            · split
              · rw [Option.map_some, show (st.put e v).drop s = (st.drop s).put e v from rfl, at_put (h.drop s) hv hne hvk rfl]
              · rfl
            · rfl
          · rfl
        · rfl
  case mkslice el sz b z l c =>
    have hl : l.ev (st.put e v) = l.ev st := hs.ev fun n hn => by simp [AOp.reads, hn]
    have hc : c.ev (st.put e v) = c.ev st := hs.ev fun n hn => by simp [AOp.reads, hn]
    simp only [opStep, hl, hc]
    split
    · split
      · rw [Option.map_some, at_put h hv hne hvk rfl]
      · rfl
    · rfl
/-- what is made leaves the slots, and the other objects (but for the one that is appended to) -/
theorem make_env {op : AOp} (hop : op.free = true) {d : Nat} (h : st.No d) {st' : St} (hs : opStep call (some d) op st = some st') : (∃ v, st'.env = (st.put d v).env) ∧ (op.isApp = false → ∀ n, n ≠ d → st'.seg n = st.seg n) := by
  have at1 : ∀ o v, ((st.at_ d o).put d v).env = (st.put d v).env ∧ ∀ n, n ≠ d → ((st.at_ d o).put d v).seg n = st.seg n := fun o v => by
    rw [h.at_eq]
    exact ⟨rfl, fun n hn => by simp [St.put, hn]⟩
  cases op <;> simp only [AOp.free, Bool.false_eq_true] at hop
  case box =>
    simp only [opStep] at hs
    split at hs <;> cases hs
    exact ⟨⟨_, (at1 _ _).1⟩, fun _ => (at1 _ _).2⟩
  case alloc =>
    simp only [opStep] at hs
    split at hs <;> cases hs
    exact ⟨⟨_, (at1 _ _).1⟩, fun _ => (at1 _ _).2⟩
  case mkslice =>
    simp only [opStep] at hs
    split at hs
    · split at hs <;> cases hs
      exact ⟨⟨_, (at1 _ _).1⟩, fun _ => (at1 _ _).2⟩
    · cases hs
  case append el sz b x y =>
    refine ⟨?_, fun he => by simp [AOp.isApp] at he⟩
    have hxn := h.ev x
    simp only [opStep, aAppend] at hs
    (repeat' split at hs) <;> first
      | (cases hs; done)
      | (cases hs; exact ⟨_, rfl⟩)
      | (cases hs; exact ⟨_, (at1 _ _).1⟩)
      | skip
    rename_i s sz' off len hz _ el' sz'' es hseg _
    cases hs
    rw [hz] at hxn
    have hsd : s ≠ d := by simpa [AV.has] using hxn
    have halt : alt s d = d := by
      unfold alt
      rw [show Nat.beq s d = false from by cases hb : Nat.beq s d with | false => rfl | true => exact absurd (Nat.eq_of_beq_eq_true hb) hsd]
      rfl
    rw [halt, (h.drop s).at_eq]
    exact ⟨_, rfl⟩
theorem aLoad_off {d : Nat} (h : ∀ n, n ≠ d → st2.seg n = st.seg n) {v : AV} (hv : v.has d = false) (g : Bool) (sz : Nat) : aLoad st2 g sz v = aLoad st g sz v := by
  cases v with
  | ptr s sz' i off =>
    have hs : s ≠ d := by simpa [AV.has] using hv
    simp only [aLoad, h s hs]
  | d x => exact aLoad_d _ _ _
  | _ => rfl
theorem vRes_off {i : AIns} {d : Nat} (hS : Same i.reads st st2) (h : st.No d) (hseg : ∀ n, n ≠ d → st2.seg n = st.seg n) (hop : i.op.isLoad = true) : vRes call i st2 = vRes call i st := by
  have key : ∀ {a b : St}, Same i.reads a b → a.No d → (∀ n, n ≠ d → b.seg n = a.seg n) → gVal call i.op b = gVal call i.op a := by
    intro a b hs hn hg
    cases hi : i.op <;> simp only [hi, AOp.isLoad, Bool.false_eq_true] at hop
    rename_i g sz x z
    have hx : x.ev b = x.ev a := hs.ev fun n hn => by simp [AIns.reads, hi, AOp.reads, hn]
    simp only [gVal, aVal, hx, aLoad_off hg (hn.ev x)]
  unfold vRes
  cases hg : i.g with
  | none =>
    simp only
    rw [key hS h hseg]
  | some tw =>
    obtain ⟨t, want⟩ := tw
    have ht : t ∈ i.reads := by simp [AIns.reads, hg]
    have hu : ∀ p ∈ i.up, p.1 ∈ i.reads := fun p hp => by simp only [AIns.reads, List.mem_append, List.mem_map]; exact .inr (.inl ⟨p, hp, rfl⟩)
    simp only
    rw [dead_same hS i.up t want ht hu]
    rcases hypL_same hS i.up t want ht hu with ⟨e1, e2⟩ | ⟨g, g2, e1, e2, e3, e4, e5⟩
    · rw [e1, e2]
    · rw [e1, e2]
      simp only
      rw [key e3 (h.hypL e1) fun n hn => by rw [e4, e5]; exact hseg n hn]
theorem f_step {x : AIns} (hf : x.f = true) (hop : x.op.free = true) : dStep call x st = opStep call x.dst x.op st := by
  have he : x.e = true := by
    simp only [AIns.f, Bool.and_eq_true] at hf
    exact hf.1
  unfold dStep
  rw [if_pos he]
  cases hx : x.op <;> simp only [hx, AOp.free, Bool.false_eq_true] at hop <;> rfl
/-- the value of what stays apart from what is made -/
theorem free_val {x y : AIns} (hf : freeI x y = true) {d : Nat} (hd : x.dst = some d) (hn : d ∉ y.reads) (h : st.No d) {st' : St} (hs : opStep call (some d) x.op st = some st') : (y.cls = .p ∨ y.cls = .r) ∧ vRes call y st' = vRes call y st := by
  simp only [freeI, Bool.and_eq_true] at hf
  obtain ⟨⟨hxf, hop⟩, hy⟩ := hf
  obtain ⟨⟨v, henv⟩, hseg⟩ := make_env hop h hs
  have hS : Same y.reads st st' := fun n hn' => by
    have := same_put (st := st) (rs := y.reads) (v := v) hn n hn'
    rwa [← henv] at this
  cases hc : y.cls with
  | p => exact ⟨.inl rfl, vRes_same hS (.inl ((cls_op (.inl hc)).2.trans hc))⟩
  | r =>
    simp only [hc, Bool.and_eq_true, Bool.not_eq_true'] at hy
    exact ⟨.inr rfl, vRes_off hS h (hseg hy.2) hy.1⟩
  | s => simp [hc] at hy
  | x => simp [hc] at hy
theorem swap_fv {x y : AIns} (ha : apartI x y = true) (hxf : x.f = true) (hop : x.op.free = true) {s s1 s2 : St} (hN : ∀ d, x.dst = some d → s.No d) (hyc : y.cls = .p ∨ y.cls = .r)
    (hval : ∀ d s', x.dst = some d → opStep call (some d) x.op s = some s' → vRes call y s' = vRes call y s) (hx : dStep call x s = some s1) (hy : dStep call y s1 = some s2) : ∃ s1', dStep call y s = some s1' ∧ dStep call x s1' = some s2 := by
  obtain ⟨h1, h2⟩ := apart_spec ha
  rw [f_step hxf hop] at hx
  rw [dStep_v hyc] at hy
  obtain ⟨e, v, he, hv, rfl⟩ := vStep_eq hy
  cases hd : x.dst with
  | none => rw [hd] at hx; cases hxo : x.op <;> simp only [hxo, AOp.free, Bool.false_eq_true] at hop <;> simp [hxo, opStep] at hx
  | some d =>
    rw [hd] at hx
    have hNo := hN d hd
    have hv' := (hval d s1 hd hx).symm.trans hv
    have hxr : e ∉ x.op.reads := fun hm => h2 e he (by simp [AIns.reads, hm])
    have hne : e ≠ d := fun h => (h1 d hd).2 (by rw [he, h])
    refine ⟨s.put e v, by rw [dStep_v hyc]; simp only [vStep, he, hv', Option.map_some], ?_⟩
    rw [f_step hxf hop, hd, make_put hop hNo (vRes_no hNo hv') (vRes_kill hv' (h1 d hd).1) hxr hne, hx]
    rfl
theorem swap_vf {x y : AIns} (ha : apartI x y = true) (hyf : y.f = true) (hop : y.op.free = true) {s s1 s2 : St} (hN : ∀ d, y.dst = some d → s.No d) (hxc : x.cls = .p ∨ x.cls = .r)
    (hval : ∀ d s', y.dst = some d → opStep call (some d) y.op s = some s' → vRes call x s' = vRes call x s) (hx : dStep call x s = some s1) (hy : dStep call y s1 = some s2) : ∃ s1', dStep call y s = some s1' ∧ dStep call x s1' = some s2 := by
  obtain ⟨h1, h2⟩ := apart_spec ha
  rw [f_step hyf hop] at hy
  rw [dStep_v hxc] at hx
  obtain ⟨e, v, he, hv, rfl⟩ := vStep_eq hx
  cases hd : y.dst with
  | none => rw [hd] at hy; cases hyo : y.op <;> simp only [hyo, AOp.free, Bool.false_eq_true] at hop <;> simp [hyo, opStep] at hy
  | some d =>
    rw [hd] at hy
    have hNo := hN d hd
    have hyr : e ∉ y.op.reads := fun hm => (h1 e he).1 (by simp [AIns.reads, hm])
    have hne : e ≠ d := fun h => (h1 e he).2 (by rw [hd, h])
    have hdx : d ∉ x.reads := h2 d hd
    rw [make_put hop hNo (vRes_no hNo hv) (vRes_kill hv hdx) hyr hne] at hy
    simp only [Option.map_eq_some_iff] at hy
    obtain ⟨s', hs', rfl⟩ := hy
    refine ⟨s', by rw [f_step hyf hop, hd]; exact hs', ?_⟩
    rw [dStep_v hxc]
    simp only [vStep, he, (hval d s' hd hs').trans hv, Option.map_some]
/-! ### plain operations on data -/
theorem ev_dat {op : AOp} (hd : ∀ n ∈ op.reads, ∃ u, st.env n = .d u) (h2 : ∀ n ∈ op.reads, st2.env n = st.env n) {x : AX} (hx : ∀ n ∈ x.rd, n ∈ op.reads) : ∃ u, x.ev st = .d u ∧ x.ev st2 = .d u := by
  cases x with
  | t n =>
    have hn := hx n (by simp [AX.rd])
    obtain ⟨u, hu⟩ := hd n hn
    exact ⟨u, by simp [AX.ev, hu, AV.strip], by simp [AX.ev, h2 n hn, hu, AV.strip]⟩
  | k c => exact ⟨c, rfl, rfl⟩
  | fn g => exact ⟨_, rfl, rfl⟩
theorem opt_dat {op : AOp} (hd : ∀ n ∈ op.reads, ∃ u, st.env n = .d u) (h2 : ∀ n ∈ op.reads, st2.env n = st.env n) {x : Option AX} (hx : ∀ n ∈ rdO x, n ∈ op.reads) : optInt st2 x = optInt st x := by
  cases x with
  | none => rfl
  | some x =>
    obtain ⟨u, h3, h4⟩ := ev_dat hd h2 (x := x) hx
    simp only [optInt, h3, h4]
theorem simple_val {op : AOp} (hs : op.simple = true) (hd : ∀ n ∈ op.reads, ∃ u, st.env n = .d u) (h2 : ∀ n ∈ op.reads, st2.env n = st.env n) : gVal call op st2 = gVal call op st ∧ ∀ v, gVal call op st = some v → ∃ u, v = .d u := by
  cases op <;> simp only [AOp.simple, Bool.false_eq_true] at hs
  case mv x =>
    obtain ⟨u, h3, h4⟩ := ev_dat hd h2 (x := x) (fun n hn => hn)
    simp only [gVal, aVal, h3, h4]
    exact ⟨trivial, fun v hv => ⟨u, (Option.some.inj hv).symm⟩⟩
  case load g sz x z =>
    obtain ⟨u, h3, h4⟩ := ev_dat hd h2 (x := x) (fun n hn => hn)
    simp only [gVal, aVal, h3, h4, aLoad_d (st := st) (st2 := st2)]
    refine ⟨trivial, fun v hv => ?_⟩
    simp only [Option.bind_eq_some_iff] at hv
    obtain ⟨w, hw, hc⟩ := hv
    rw [chk_eq hc]
    cases u <;> simp only [aLoad, reduceCtorEq] at hw
    unfold valD at hw
    split at hw
    · split at hw <;> cases hw
      exact ⟨_, rfl⟩
    · simp only [Option.map_eq_some_iff] at hw
      obtain ⟨c, _, rfl⟩ := hw
      exact ⟨_, rfl⟩
  case bslice el sz len z parts =>
    have hsm : Same (AOp.bslice el sz len z parts).reads st st2 := fun n hn => .inl (h2 n hn)
    simp only [gVal]
    rw [rows_same hsm sz parts _ fun n hn => by simpa [AOp.reads] using hn]
    refine ⟨rfl, fun v hv => ?_⟩
    (repeat' split at hv) <;> cases hv
    exact ⟨_, rfl⟩
  case bin op x y =>
    obtain ⟨u, h3, h4⟩ := ev_dat hd h2 (x := x) (fun n hn => by simp [AOp.reads, hn])
    obtain ⟨u', h5, h6⟩ := ev_dat hd h2 (x := y) (fun n hn => by simp [AOp.reads, hn])
    simp only [gVal, aVal, h3, h4, h5, h6]
    refine ⟨trivial, fun v hv => ?_⟩
    unfold aBin at hv
    split at hv
    · split at hv
      · simp only [Option.map_eq_some_iff] at hv
        obtain ⟨w, _, rfl⟩ := hv
        exact ⟨_, rfl⟩
      · cases hv
    · cases hv
  case conv k x =>
    obtain ⟨u, h3, h4⟩ := ev_dat hd h2 (x := x) (fun n hn => hn)
    simp only [gVal, aVal, h3, h4]
    refine ⟨trivial, fun v hv => ?_⟩
    unfold aConv at hv
    split at hv <;> cases hv
    exact ⟨_, rfl⟩
  case faddr off x =>
    obtain ⟨u, h3, h4⟩ := ev_dat hd h2 (x := x) (fun n hn => hn)
    simp only [gVal, aVal, h3, h4]
    refine ⟨trivial, fun v hv => ?_⟩
    cases u <;> simp only [aFaddr, reduceCtorEq] at hv
    exact ⟨_, (Option.some.inj hv).symm⟩
  case iaddr sz x i z =>
    obtain ⟨u, h3, h4⟩ := ev_dat hd h2 (x := x) (fun n hn => by simp [AOp.reads, hn])
    obtain ⟨u', h5, h6⟩ := ev_dat hd h2 (x := i) (fun n hn => by simp [AOp.reads, hn])
    simp only [gVal, aVal, h3, h4, h5, h6]
    refine ⟨trivial, fun v hv => ?_⟩
    simp only [Option.bind_eq_some_iff] at hv
    obtain ⟨w, hw, hc⟩ := hv
    rw [chkR_eq hc]
    unfold aIaddr at hw
    split at hw
    · split at hw
      · simp only [Option.map_eq_some_iff] at hw
        obtain ⟨_, _, rfl⟩ := hw
        exact ⟨_, rfl⟩
      · cases hw
    · split at hw
      · simp only [Option.map_eq_some_iff] at hw
        obtain ⟨_, _, rfl⟩ := hw
        exact ⟨_, rfl⟩
      · cases hw
    · rename_i he _
      cases he
    · cases hw
  case slice sz x lo hi mx =>
    obtain ⟨u, h3, h4⟩ := ev_dat hd h2 (x := x) (fun n hn => by simp [AOp.reads, hn])
    have e1 := opt_dat hd h2 (x := lo) (fun n hn => by simp [AOp.reads, hn])
    have e2 := opt_dat hd h2 (x := hi) (fun n hn => by simp [AOp.reads, hn])
    have e3 := opt_dat hd h2 (x := mx) (fun n hn => by simp [AOp.reads, hn])
    simp only [gVal, aVal, h3, h4]
    have hse : aSlice st2 sz (.d u) lo hi mx = aSlice st sz (.d u) lo hi mx := by simp only [aSlice, e1, e2, e3]
    refine ⟨hse, fun v hv => ?_⟩
    unfold aSlice at hv
    split at hv
    · dsimp only at hv
      split at hv
      · split at hv <;> cases hv
        exact ⟨_, rfl⟩
      · split at hv
        · split at hv
          · cases hv; exact ⟨_, rfl⟩
          · split at hv <;> cases hv
            exact ⟨_, rfl⟩
        · cases hv
      · split at hv
        · split at hv
          · cases hv; exact ⟨_, rfl⟩
          · split at hv <;> cases hv
            exact ⟨_, rfl⟩
        · cases hv
      · rename_i he
        cases he
      · cases hv
    · cases hv
  case ext x i =>
    obtain ⟨u, h3, h4⟩ := ev_dat hd h2 (x := x) (fun n hn => hn)
    simp only [gVal, aVal, h3, h4]
    refine ⟨trivial, fun v hv => ?_⟩
    unfold aExt at hv
    split at hv
    · rename_i he
      cases he
    · simp only [Option.map_eq_some_iff] at hv
      obtain ⟨_, _, rfl⟩ := hv
      exact ⟨_, rfl⟩
    · cases hv
  case len x =>
    obtain ⟨u, h3, h4⟩ := ev_dat hd h2 (x := x) (fun n hn => hn)
    simp only [gVal, aVal, h3, h4]
    refine ⟨trivial, fun v hv => ?_⟩
    unfold aLen at hv
    split at hv <;> cases hv <;> exact ⟨_, rfl⟩
theorem kill_killW (v : AV) (s e : Nat) : (v.killW e).kill s = (v.kill s).killW e := by
  have other : ∀ v : AV, v.killW e = v → (v.killW e).kill s = (v.kill s).killW e := fun v hv => by
    rw [hv]
    unfold AV.kill
    split
    · rfl
    · exact hv.symm
  cases v <;> try exact other _ rfl
  rename_i t want x
  simp only [AV.kill, AV.killW, AV.has]
  by_cases h1 : t = e <;> by_cases h2 : x.has s = true <;> simp [h1, h2, AV.has, AV.killW]
theorem put_at' {e s : Nat} {o : Ob} {u : DV} : (st.put e (.d u)).at_ s o = (st.at_ s o).put e (.d u) := by
  simp only [St.at_, St.put, St.mk.injEq, and_true]
  funext n
  split
  · simp [AV.kill, AV.has]
  · exact kill_killW _ _ _
theorem put_lose {e s : Nat} {u : DV} : (st.put e (.d u)).lose s = (st.lose s).put e (.d u) := by
  simp only [St.lose, St.put, St.mk.injEq, and_true]
  funext n
  split
  · simp [AV.kill, AV.has]
  · exact kill_killW _ _ _
theorem put_put' {d e : Nat} {u : DV} {p : AV} (hne : e ≠ d) (hp : p.killW e = p) : (st.put e (.d u)).put d p = (st.put d p).put e (.d u) := put_put hne rfl hp
theorem placeI_put {t e : Nat} {u : DV} : ∀ (l : List DV) (j : Nat) (s : St), placeI t j l (s.put e (.d u)) = ((placeI t j l s).1, (placeI t j l s).2.put e (.d u))
  | [], j, s => rfl
  | x :: l, j, s => by
    have other : ∀ y : DV, (AV.d y :: (placeI t (j + 1) l (s.put e (.d u))).1, (placeI t (j + 1) l (s.put e (.d u))).2) = (AV.d y :: (placeI t (j + 1) l s).1, (placeI t (j + 1) l s).2.put e (.d u)) := fun y => by rw [placeI_put l (j + 1) s]
    cases x with
    | sl q sz es =>
      cases q with
      | own el => simp only [placeI]; rw [put_at', placeI_put l (j + 1)]
      | _ => exact other _
    | _ => exact other _
theorem placeR_put {t e : Nat} {u : DV} : ∀ (es : List (List DV)) (j : Nat) (s : St), placeR t j es (s.put e (.d u)) = ((placeR t j es s).1, (placeR t j es s).2.put e (.d u))
  | [], j, s => rfl
  | x :: es, j, s => by simp only [placeR]; rw [placeI_put x j s, placeR_put es (j + x.length)]
theorem placeL_put {t e : Nat} {u : DV} : ∀ (l : List DV) (j : Nat) (s : St), placeL t j l (s.put e (.d u)) = ((placeL t j l s).1, (placeL t j l s).2.put e (.d u))
  | [], j, s => rfl
  | x :: l, j, s => by
    have other : ∀ y : DV, (AV.d y :: (placeL t (j + 1) l (s.put e (.d u))).1, (placeL t (j + 1) l (s.put e (.d u))).2) = (AV.d y :: (placeL t (j + 1) l s).1, (placeL t (j + 1) l s).2.put e (.d u)) := fun y => by rw [placeL_put l (j + 1) s]
    cases x with
    | sl q sz es =>
      cases q with
      | own el => simp only [placeL]; rw [put_at', placeL_put l (j + 1)]
      | own2 el => simp only [placeL]; rw [placeR_put es (j + 1) s, put_at', placeL_put l (j + 1 + cellsN es)]
      | _ => exact other _
    | _ => exact other _
theorem place_put {t e : Nat} {u : DV} {r : DV} {s : St} (hne : e ≠ t) : place t r (s.put e (.d u)) = (place t r s).put e (.d u) := by
  have other : (s.put e (.d u)).put t (.d r) = (s.put t (.d r)).put e (.d u) := put_put' hne rfl
  unfold place
  split
  · rw [put_at', put_put' hne rfl]
  · rename_i el sz es
    simp only [placeL_put]
    refine put_put' hne ?_
    show ((AV.aref _ _ _ _ :: (placeL t _ [] _).1).headD .undef).killW e = _
    rfl
  · split
    · simp only [placeL_put]
      exact put_put' hne rfl
    · exact put_put' hne rfl
  · split
    · simp only [placeL_put]
      exact put_put' hne rfl
    · exact put_put' hne rfl
  · exact other
theorem rowsSet_seg (h : st2.seg = st.seg) {rs : List Nat} (hS : Same rs st st2) (sz : Nat) (parts : List (Nat × AX)) (rows : List (List AV)) (hr : ∀ n ∈ parts.flatMap (fun p => p.2.rd), n ∈ rs) : rowsSet st2 sz rows parts = rowsSet st sz rows parts := rows_same hS sz parts rows hr
/-- what makes an object, and a slot that gets data: in either order -/
theorem eStep_put {op : AOp} (hop : (op.makes || op.free) = true) {d e : Nat} {u : DV} (he : e ∉ op.reads) (hne : e ≠ d) :
    eStep call (some d) op (st.put e (.d u)) = (eStep call (some d) op st).map (·.put e (.d u)) := by
  have hs : Same op.reads st (st.put e (.d u)) := same_put he
  have hsn : snap (st.put e (.d u)) = snap st := snap_seg rfl
  cases op <;> simp only [AOp.free, AOp.makes, Bool.or_self, Bool.false_eq_true, Bool.or_false, Bool.or_true] at hop
  case box el sz x =>
    have hx : x.ev (st.put e (.d u)) = x.ev st := hs.ev fun n hn => by simpa [AOp.reads] using hn
    simp only [eStep, opStep, hx]
    split
    · rw [Option.map_some, put_at', put_put' hne rfl]
    · rfl
  case alloc el sz z =>
    simp only [eStep, opStep]
    split
    · rw [Option.map_some, put_at', put_put' hne rfl]
    · rfl
  case bslice el sz len z parts =>
    have hr : rowsSet (st.put e (.d u)) sz (List.replicate len (z.map .d)) parts = rowsSet st sz (List.replicate len (z.map .d)) parts := rows_same hs sz parts _ fun n hn => by simpa [AOp.reads] using hn
    simp only [eStep, opStep, hr]
    split
    · split
      · split
        · rfl
        · rw [Option.map_some, put_at', put_put' hne rfl]
      · rfl
    · rfl
  case append el sz b x y =>
    have hx : x.ev (st.put e (.d u)) = x.ev st := hs.ev fun n hn => by simp [AOp.reads, hn]
    have hy : y.ev (st.put e (.d u)) = y.ev st := hs.ev fun n hn => by simp [AOp.reads, hn]
    simp only [eStep, opStep, hx, hy, aAppend]
    rw [show elems (st.put e (.d u)) sz (y.ev st) = elems st sz (y.ev st) from rfl]
    cases elems st sz (y.ev st) with
    | none => rfl
    | some news =>
      simp only
      split
      · split
        · rename_i hz; rw [Option.map_some, put_put' hne (by rw [hz]; rfl)]
        · rename_i hz; rw [Option.map_some, put_put' hne (by rw [hz]; rfl)]
        · rename_i hz; rw [Option.map_some, put_put' hne (by rw [hz]; rfl)]
        · rename_i hz; rw [Option.map_some, put_put' hne (by rw [hz]; rfl)]
        · rfl
      · split
        · split
          · split
            · rw [Option.map_some, put_at', put_put' hne rfl]
            · rfl
          · split
            · rw [Option.map_some, put_at', put_put' hne rfl]
            · rfl
          · split
            · rw [Option.map_some, put_at', put_put' hne rfl]
            · rfl
          · rename_i s sz' off len hz
            rw [show (st.put e (.d u)).seg s = st.seg s from rfl]
            split
            · split
              · rw [Option.map_some, show (st.put e (.d u)).drop s = (st.drop s).put e (.d u) from rfl, put_at', put_put' hne rfl]
              · rfl
            · rfl
          · rfl
        · rfl
  case mkslice el sz b z l c =>
    have hl : l.ev (st.put e (.d u)) = l.ev st := hs.ev fun n hn => by simp [AOp.reads, hn]
    have hc : c.ev (st.put e (.d u)) = c.ev st := hs.ev fun n hn => by simp [AOp.reads, hn]
    simp only [eStep, opStep, hl, hc]
    split
    · split
      · rw [Option.map_some, put_at', put_put' hne rfl]
      · rfl
    · rfl
  case call f args =>
    have ha : args.map (·.ev (st.put e (.d u))) = args.map (·.ev st) := hs.evs fun n hn => by simpa [AOp.reads] using hn
    simp only [eStep, ha, hsn]
    cases mapO (snap st) (args.map (·.ev st)) with
    | none => rfl
    | some ds =>
      simp only
      cases call f ds with
      | none => rfl
      | some r =>
        simp only [Option.bind_some]
        split
        · rfl
        · rw [Option.map_some, place_put hne]
  case mcall f x args =>
    have ha : args.map (·.ev (st.put e (.d u))) = args.map (·.ev st) := hs.evs fun n hn => by
      simp only [AOp.reads, List.mem_append]
      exact .inr hn
    have hx : x.ev (st.put e (.d u)) = x.ev st := hs.ev fun n hn => by simp [AOp.reads, hn]
    simp only [eStep, opStep, ha, hsn, hx]
    cases x.ev st with
    | aref s sz off len =>
      simp only
      rw [show (st.put e (.d u)).seg s = st.seg s from rfl]
      cases st.seg s with
      | none => rfl
      | some o =>
        cases o with
        | mix => rfl
        | dat el sz' es =>
          simp only
          split
          · cases mapO (snap st) (args.map (·.ev st)) with
            | none => rfl
            | some ds =>
              simp only
              cases call f (.mv el sz es :: ds) with
              | none => rfl
              | some r =>
                simp only [Option.map_some]
                rw [put_lose, place_put hne]
          · rfl
    | d y =>
      simp only
      cases mapO (snap st) (AV.d y :: args.map (·.ev st)) with
      | none => rfl
      | some ds =>
        simp only
        cases call f ds with
        | none => rfl
        | some r =>
          simp only [Option.bind_some]
          split
          · rfl
          · rw [Option.map_some, place_put hne]
    | _ => rfl
theorem eStep_dat {op : AOp} {dst : Option Nat} {s s' : St} (h : eStep call dst op s = some s') {n : Nat} (hn : dst ≠ some n) {u : DV} (hu : s.env n = .d u) (hop : (op.makes || op.free) = true) : s'.env n = .d u := by
  have hnr : n ∉ op.reads ∨ n ∈ op.reads := by
    by_cases h : n ∈ op.reads
    · exact .inr h
    · exact .inl h
  cases dst with
  | none => cases op <;> simp only [AOp.free, AOp.makes, Bool.or_self, Bool.false_eq_true] at hop <;> simp [eStep, opStep, aVal] at h
  | some d =>
    have hd : n ≠ d := fun e => hn (by rw [e])
    have e1 : ∀ (o : Ob) (t : Nat) (p : AV), ((s.at_ t o).put d p).env n = .d u := fun o t p => by
      simp [St.put, if_neg hd, St.at_, AV.kill, hu, AV.has, AV.killW]
    have e2 : ∀ p : AV, (s.put d p).env n = .d u := fun p => by simp [St.put, if_neg hd, hu, AV.killW]
    have e3I : ∀ (l : List DV) (j : Nat) (q : St), q.env n = .d u → (placeI d j l q).2.env n = .d u := by
      intro l
      induction l with
      | nil => intro j q hq; exact hq
      | cons x l ih =>
        intro j q hq
        have other : (placeI d (j + 1) l q).2.env n = .d u := ih (j + 1) q hq
        cases x with
        | sl k sz es =>
          cases k with
          | own el => exact ih (j + 1) _ (by simp [St.at_, AV.kill, hq, AV.has])
          | _ => exact other
        | _ => exact other
    have e3R : ∀ (es : List (List DV)) (j : Nat) (q : St), q.env n = .d u → (placeR d j es q).2.env n = .d u := by
      intro es
      induction es with
      | nil => intro j q hq; exact hq
      | cons x es ih => exact fun j q hq => ih _ _ (e3I x j q hq)
    have e3 : ∀ (l : List DV) (j : Nat) (q : St), q.env n = .d u → (placeL d j l q).2.env n = .d u := by
      intro l
      induction l with
      | nil => intro j q hq; exact hq
      | cons x l ih =>
        intro j q hq
        have other : (placeL d (j + 1) l q).2.env n = .d u := ih (j + 1) q hq
        cases x with
        | sl k sz es =>
          cases k with
          | own el => exact ih (j + 1) _ (by simp [St.at_, AV.kill, hq, AV.has])
          | own2 el =>
            have hr := e3R es (j + 1) q hq
            exact ih (j + 1 + cellsN es) _ (by simp [St.at_, AV.kill, hr, AV.has])
          | _ => exact other
        | _ => exact other
    have e4 : ∀ (r : DV) (q : St), q.env n = .d u → (place d r q).env n = .d u := by
      intro r q hq
      have p1 : ∀ (q : St), q.env n = .d u → ∀ p : AV, (q.put d p).env n = .d u := fun q hq p => by simp [St.put, if_neg hd, hq, AV.killW]
      unfold place
      split
      · exact p1 _ (by simp [St.at_, AV.kill, hq, AV.has]) _
      · exact p1 _ (e3 _ _ _ hq) _
      · split
        · exact p1 _ (e3 _ _ _ hq) _
        · exact p1 _ hq _
      · split
        · exact p1 _ (e3 _ _ _ hq) _
        · exact p1 _ hq _
      · exact p1 _ hq _
    cases op <;> simp only [AOp.free, AOp.makes, Bool.or_self, Bool.false_eq_true, Bool.or_false, Bool.or_true] at hop
    case box =>
      simp only [eStep, opStep] at h
      split at h <;> cases h
      exact e1 _ _ _
    case alloc =>
      simp only [eStep, opStep] at h
      split at h <;> cases h
      exact e1 _ _ _
    case bslice =>
      simp only [eStep, opStep] at h
      (repeat' split at h) <;> first | (cases h; done) | (cases h; exact e1 _ _ _)
    case append =>
      simp only [eStep, opStep, aAppend] at h
      (repeat' split at h) <;> first
        | (cases h; done)
        | (cases h; exact e2 _)
        | (cases h; exact e1 _ _ _)
        | (cases h; simp [St.put, if_neg hd, St.at_, St.drop, AV.kill, hu, AV.has, AV.killW])
    case mkslice =>
      simp only [eStep, opStep] at h
      (repeat' split at h) <;> first | (cases h; done) | (cases h; exact e1 _ _ _)
    case call =>
      simp only [eStep] at h
      split at h
      · simp only [Option.bind_eq_some_iff] at h
        obtain ⟨r, _, h⟩ := h
        split at h <;> cases h
        exact e4 _ _ hu
      · cases h
    case mcall =>
      simp only [eStep, opStep] at h
      (repeat' split at h) <;> try (cases h; done)
      · simp only [Option.map_eq_some_iff] at h
        obtain ⟨r, _, rfl⟩ := h
        exact e4 _ _ (by simp [St.lose, AV.kill, hu, AV.has])
      · simp only [Option.bind_eq_some_iff] at h
        obtain ⟨r, _, h⟩ := h
        split at h <;> cases h
        exact e4 _ _ hu
theorem simple_step {y : AIns} (hg : y.g.isNone = true) (he : y.e = false) (hs : y.op.simple = true) : (y.cls = .p ∨ y.cls = .r) ∧ ∀ s, vRes call y s = (gVal call y.op s).map AV.strip := by
  have hg' : y.g = none := by simpa using hg
  refine ⟨?_, fun s => by simp only [vRes, hg']⟩
  simp only [AIns.cls, he, cond_false]
  cases hy : y.op <;> simp_all [AOp.simple, AOp.cls]
theorem e_step {x : AIns} (he : x.e = true) (s : St) : dStep call x s = eStep call x.dst x.op s := by
  unfold dStep
  rw [if_pos he]
theorem swap_ed {x y : AIns} (hd : dynD x y = true) {s s1 s2 : St} (hdat : ∀ n ∈ y.op.reads, ∃ u, s.env n = .d u) (hx : dStep call x s = some s1) (hy : dStep call y s1 = some s2) : ∃ s1', dStep call y s = some s1' ∧ dStep call x s1' = some s2 := by
  simp only [dynD, Bool.and_eq_true, Bool.not_eq_true'] at hd
  obtain ⟨hxe, hop, hg, hye, hs, ha⟩ := hd
  obtain ⟨h1, h2⟩ := apart_spec ha
  obtain ⟨hyc, hval⟩ := simple_step (call := call) hg hye hs
  rw [e_step hxe] at hx
  rw [dStep_v hyc] at hy
  obtain ⟨e, v, hde, hv, rfl⟩ := vStep_eq hy
  cases hd : x.dst with
  | none => rw [hd] at hx; cases hxo : x.op <;> simp only [hxo, AOp.free, AOp.makes, Bool.or_self, Bool.false_eq_true] at hop <;> simp [hxo, eStep, opStep, aVal] at hx
  | some d =>
    have hdn := h1 d hd
    have hen := h2 e hde
    have hsame : ∀ n ∈ y.op.reads, s1.env n = s.env n := fun n hn => by
      obtain ⟨u, hu⟩ := hdat n hn
      rw [hu]
      exact eStep_dat hx (fun he => hdn.1 (by rw [hd] at he; cases he; simp [AIns.reads, hn])) hu hop
    obtain ⟨g1, g2⟩ := simple_val (call := call) hs hdat hsame
    rw [hval, g1] at hv
    simp only [Option.map_eq_some_iff] at hv
    obtain ⟨v0, hv0, rfl⟩ := hv
    obtain ⟨u, rfl⟩ := g2 v0 hv0
    refine ⟨s.put e (.d u), by rw [dStep_v hyc]; simp only [vStep, hde, hval, hv0, Option.map_some, AV.strip], ?_⟩
    rw [e_step hxe, hd, eStep_put hop (fun hm => hen (by simp [AIns.reads, hm])) (fun h => hdn.2 (by rw [hde, h])), ← hd, hx]
    rfl
theorem swap_de {x y : AIns} (hd : dynE x y = true) {s s1 s2 : St} (hdat : ∀ n ∈ x.op.reads, ∃ u, s.env n = .d u) (hx : dStep call x s = some s1) (hy : dStep call y s1 = some s2) : ∃ s1', dStep call y s = some s1' ∧ dStep call x s1' = some s2 := by
  simp only [dynE, Bool.and_eq_true, Bool.not_eq_true'] at hd
  obtain ⟨hye, hop, hg, hxe, hs, ha⟩ := hd
  obtain ⟨h1, h2⟩ := apart_spec ha
  obtain ⟨hxc, hval⟩ := simple_step (call := call) hg hxe hs
  rw [e_step hye] at hy
  rw [dStep_v hxc] at hx
  obtain ⟨e, v, hde, hv, rfl⟩ := vStep_eq hx
  rw [hval] at hv
  simp only [Option.map_eq_some_iff] at hv
  obtain ⟨v0, hv0, rfl⟩ := hv
  obtain ⟨u, rfl⟩ := (simple_val (call := call) (st2 := s) hs hdat (fun _ _ => rfl)).2 v0 hv0
  cases hd : y.dst with
  | none => rw [hd] at hy; cases hyo : y.op <;> simp only [hyo, AOp.free, AOp.makes, Bool.or_self, Bool.false_eq_true] at hop <;> simp [hyo, eStep, opStep, aVal] at hy
  | some d =>
    have hen := h1 e hde
    have hdn := h2 d hd
    rw [hd, show (AV.d u).strip = .d u from rfl, eStep_put hop (fun hm => hen.1 (by simp [AIns.reads, hm])) (fun h => hen.2 (by rw [hd, h]))] at hy
    simp only [Option.map_eq_some_iff] at hy
    obtain ⟨s', hs', rfl⟩ := hy
    refine ⟨s', by rw [e_step hye, hd]; exact hs', ?_⟩
    have hsame : ∀ n ∈ x.op.reads, s'.env n = s.env n := fun n hn => by
      obtain ⟨w, hw⟩ := hdat n hn
      rw [hw]
      exact eStep_dat hs' (fun he => hdn (by cases he; simp [AIns.reads, hn])) hw hop
    rw [dStep_v hxc]
    simp only [vStep, hde, hval, (simple_val (call := call) hs hdat hsame).1, hv0, Option.map_some, AV.strip]
theorem swap_comm {x y : AIns} (hc : commI x y = true) {s s1 s2 : St} (hNx : x.f = true → ∀ d, x.dst = some d → s.No d) (hNy : y.f = true → ∀ d, y.dst = some d → s.No d) (hx : dStep call x s = some s1) (hy : dStep call y s1 = some s2) :
    ∃ s1', dStep call y s = some s1' ∧ dStep call x s1' = some s2 := by
  simp only [commI, Bool.and_eq_true] at hc
  obtain ⟨ha, hc⟩ := hc
  rcases Bool.or_eq_true_iff.1 hc with hc | hc
  case inr =>
    rcases Bool.or_eq_true_iff.1 hc with hf | hf
    · have hf' := hf
      simp only [freeI, Bool.and_eq_true] at hf'
      obtain ⟨⟨hxf, hop⟩, hcl⟩ := hf'
      have hyc : y.cls = .p ∨ y.cls = .r := by cases hy' : y.cls <;> simp_all
      refine swap_fv ha hxf hop (hNx hxf) hyc (fun d s' hd hs' => ?_) hx hy
      exact (free_val hf hd ((apart_spec ha).1 d hd).1 (hNx hxf d hd) hs').2
    · have hf' := hf
      simp only [freeI, Bool.and_eq_true] at hf'
      obtain ⟨⟨hyf, hop⟩, hcl⟩ := hf'
      have hxc : x.cls = .p ∨ x.cls = .r := by cases hx' : x.cls <;> simp_all
      refine swap_vf ha hyf hop (hNy hyf) hxc (fun d s' hd hs' => ?_) hx hy
      exact (free_val hf hd ((apart_spec ha).2 d hd) (hNy hyf d hd) hs').2
  have vv : (x.cls = .p ∨ x.cls = .r) → (y.cls = .p ∨ y.cls = .r) → ∃ s1', dStep call y s = some s1' ∧ dStep call x s1' = some s2 := by
    intro h1 h2
    rw [dStep_v h1] at hx
    rw [dStep_v h2] at hy
    obtain ⟨s1', h3, h4⟩ := swap_vv ha hx hy
    exact ⟨s1', by rw [dStep_v h2]; exact h3, by rw [dStep_v h1]; exact h4⟩
  cases h1 : x.cls <;> cases h2 : y.cls <;> simp only [h1, h2, Bool.false_eq_true] at hc
  · exact vv (.inl h1) (.inl h2)
  · exact vv (.inl h1) (.inr h2)
  · exact swap_ps ha h1 h2 hx hy
  · exact vv (.inr h1) (.inl h2)
  · exact vv (.inr h1) (.inr h2)
  · exact swap_sp ha h1 h2 hx hy

/-! ### what stays -/
def AV.solid : AV → Bool
  | .d _ | .ptr _ _ _ _ => true
  | _ => false
theorem solid_kill {v : AV} {t : Nat} (h : (v.killW t).solid = true) : v.killW t = v := by
  cases v <;> first | rfl | skip
  rename_i t' want v
  simp only [AV.killW] at h ⊢
  split at h <;> simp [AV.solid] at h
theorem put_solid {s : St} {t n : Nat} {v : AV} (hn : t ≠ n) (h : ((s.put t v).env n).solid = true) : s.env n = (s.put t v).env n := by
  simp only [St.put, if_neg (Ne.symm hn)] at h ⊢
  exact (solid_kill h).symm
theorem at_solid {s : St} {t n : Nat} {o : Ob} (h : ((s.at_ t o).env n).solid = true) : s.env n = (s.at_ t o).env n := by
  simp only [St.at_, AV.kill] at h ⊢
  split at h
  · simp [AV.solid] at h
  · rename_i hh
    rw [if_neg hh]
theorem lose_solid {s : St} {t n : Nat} (h : ((s.lose t).env n).solid = true) : s.env n = (s.lose t).env n := by
  simp only [St.lose, AV.kill] at h ⊢
  split at h
  · simp [AV.solid] at h
  · rename_i hh
    rw [if_neg hh]
theorem put_at_solid {s : St} {t q n : Nat} {v : AV} {o : Ob} (hn : t ≠ n) (h : (((s.at_ q o).put t v).env n).solid = true) : s.env n = ((s.at_ q o).put t v).env n := by
  have h1 := put_solid hn h
  rw [← h1] at h
  rw [← h1]
  exact at_solid h
theorem placeI_solid {t n : Nat} : ∀ (l : List DV) (j : Nat) (s : St), (((placeI t j l s).2).env n).solid = true → s.env n = ((placeI t j l s).2).env n
  | [], j, s, h => rfl
  | x :: l, j, s, h => by
    have other : (((placeI t (j + 1) l s).2).env n).solid = true → s.env n = ((placeI t (j + 1) l s).2).env n := placeI_solid l (j + 1) s
    cases x with
    | sl q sz es =>
      cases q with
      | own el =>
        simp only [placeI] at h ⊢
        have h1 := placeI_solid l (j + 1) _ h
        rw [← h1] at h
        rw [← h1]
        exact at_solid h
      | _ => exact other h
    | _ => exact other h
theorem placeR_solid {t n : Nat} : ∀ (es : List (List DV)) (j : Nat) (s : St), (((placeR t j es s).2).env n).solid = true → s.env n = ((placeR t j es s).2).env n
  | [], j, s, h => rfl
  | x :: es, j, s, h => by
    simp only [placeR] at h ⊢
    have h1 := placeR_solid es (j + x.length) _ h
    rw [← h1] at h
    rw [← h1]
    exact placeI_solid x j s h
theorem placeL_solid {t n : Nat} : ∀ (l : List DV) (j : Nat) (s : St), (((placeL t j l s).2).env n).solid = true → s.env n = ((placeL t j l s).2).env n
  | [], j, s, h => rfl
  | x :: l, j, s, h => by
    have other : (((placeL t (j + 1) l s).2).env n).solid = true → s.env n = ((placeL t (j + 1) l s).2).env n := placeL_solid l (j + 1) s
    cases x with
    | sl q sz es =>
      cases q with
      | own el =>
        simp only [placeL] at h ⊢
        have h1 := placeL_solid l (j + 1) _ h
        rw [← h1] at h
        rw [← h1]
        exact at_solid h
      | own2 el =>
        simp only [placeL] at h ⊢
        have h1 := placeL_solid l (j + 1 + cellsN es) _ h
        rw [← h1] at h
        rw [← h1]
        have h2 := at_solid h
        rw [← h2] at h
        rw [← h2]
        exact placeR_solid es (j + 1) s h
      | _ => exact other h
    | _ => exact other h
theorem place_solid {s : St} {t n : Nat} {r : DV} (hn : t ≠ n) (h : ((place t r s).env n).solid = true) : s.env n = (place t r s).env n := by
  cases r with
  | sl q sz es =>
    cases q with
    | own el => exact put_at_solid hn h
    | own2 el =>
      simp only [place] at h ⊢
      have h1 := put_solid hn h
      rw [← h1] at h
      rw [← h1]
      exact placeL_solid _ _ _ h
    | _ => exact put_solid hn h
  | tuple vs =>
    simp only [place] at h ⊢
    split at h
    · rename_i hc
      rw [if_pos hc]
      have h1 := put_solid hn h
      rw [← h1] at h
      rw [← h1]
      exact placeL_solid _ _ _ h
    · rename_i hc
      rw [if_neg hc]
      exact put_solid hn h
  | agg vs =>
    simp only [place] at h ⊢
    split at h
    · rename_i hc
      rw [if_pos hc]
      have h1 := put_solid hn h
      rw [← h1] at h
      rw [← h1]
      exact placeL_solid _ _ _ h
    · rename_i hc
      rw [if_neg hc]
      exact put_solid hn h
  | _ => exact put_solid hn h
theorem append_solid {s s' : St} {t el sz b n : Nat} {x y : AV} (hn : t ≠ n) (h : aAppend s t el sz b x y = some s') (hs : (s'.env n).solid = true) : s.env n = s'.env n := by
  unfold aAppend at h
  (repeat' split at h) <;> first
    | cases h; done
    | (cases h; exact put_solid hn hs)
    | (cases h; exact put_at_solid hn hs)
    | (cases h; exact put_at_solid (s := s.drop _) hn hs)
theorem aVal_solid {s s' : St} {t n : Nat} {op : AOp} (hn : t ≠ n) (h : (aVal s op).map (fun v => s.put t v.strip) = some s') (hs : (s'.env n).solid = true) : s.env n = s'.env n := by
  simp only [Option.map_eq_some_iff] at h
  obtain ⟨v, _, rfl⟩ := h
  exact put_solid hn hs
theorem eStep_solid {s s' : St} {dst : Option Nat} {op : AOp} (h : eStep call dst op s = some s') {n : Nat} (hn : dst ≠ some n) (hs : (s'.env n).solid = true) : s.env n = s'.env n := by
  cases dst with
  | none =>
    cases op <;> first
      | (simp only [eStep, opStep] at h; cases h; done)
      | skip
    simp only [eStep, opStep] at h
    rw [(aStore_env s.env _ _ _ h).1]
  | some t =>
    have ht : t ≠ n := fun h => hn (by rw [h])
    cases op <;> first
      | (simp only [eStep, opStep] at h; exact aVal_solid ht h hs)
      | skip
    case call f args =>
      simp only [eStep] at h
      split at h
      · simp only [Option.bind_eq_some_iff] at h
        obtain ⟨r, _, h⟩ := h
        split at h
        · cases h
        · cases h
          exact place_solid ht hs
      · cases h
    case dcall => simp [eStep] at h
    case mcall f x args =>
      simp only [eStep, opStep] at h
      (repeat' split at h) <;> try (cases h; done)
      rotate_left
      · simp only [Option.bind_eq_some_iff] at h
        obtain ⟨r, _, h⟩ := h
        split at h <;> cases h
        exact place_solid ht hs
      simp only [Option.map_eq_some_iff] at h
      obtain ⟨r, _, rfl⟩ := h
      have h1 := place_solid ht hs
      rw [← h1] at hs
      rw [← h1]
      exact lose_solid hs
    case append el sz b x y =>
      simp only [eStep, opStep] at h
      exact append_solid ht h hs
    all_goals
      simp only [eStep, opStep] at h
      (repeat' split at h) <;> first
        | cases h; done
        | (cases h; exact put_at_solid ht hs)
theorem dStep_keeps {i : AIns} {s s' : St} (h : dStep call i s = some s') {n : Nat} (hn : i.dst ≠ some n) (hs : (s'.env n).solid = true) : s.env n = s'.env n := by
  have hv : vStep call i s = some s' → s.env n = s'.env n := by
    intro h
    obtain ⟨d, v, hd, _, rfl⟩ := vStep_eq h
    exact put_solid (fun e => hn (by rw [hd, e])) hs
  unfold dStep at h
  split at h
  · exact eStep_solid h hn hs
  · split at h
    · split at h
      · rw [(aStore_env s.env _ _ _ h).1]
      · cases h
    · exact hv h
theorem runD_solid {n : Nat} : ∀ (l : List AIns) (s s' : St), runD call l s = some s' → (∀ i ∈ l, i.dst ≠ some n) → (s'.env n).solid = true → s.env n = s'.env n
  | [], s, s', h, _, _ => by
    simp only [runD, Option.some.injEq] at h
    rw [h]
  | i :: l, s, s', h, hd, hs => by
    simp only [runD] at h
    cases h1 : dStep call i s with
    | none => simp [h1] at h
    | some s1 =>
      simp only [h1, Option.bind_some] at h
      have ih := runD_solid l s1 s' h (fun j hj => hd j (List.mem_cons.2 (.inr hj))) hs
      rw [← ih] at hs ⊢
      exact dStep_keeps h1 (hd i (List.mem_cons.2 (.inl rfl))) hs
theorem dynOk_solid {s : St} {p : Nat × Nat} (h : dynOk s p = true) : (s.env p.1).solid = true ∧ (s.env p.2).solid = true := by
  unfold dynOk at h
  split at h
  · rename_i he
    split at h
    · rename_i h1
      rw [← he, h1]
      exact ⟨rfl, rfl⟩
    · cases h
  split at h
  · rename_i h1 h2
    rw [h1, h2]
    exact ⟨rfl, rfl⟩
  · rename_i h1 h2
    rw [h1, h2]
    exact ⟨rfl, rfl⟩
  · cases h

/-! ### what stands ahead -/
theorem cloRow_bit {acc : List Nat} {j : Nat} : ∀ (p : List Nat) (m : Nat), (cloRow acc p m).testBit j = true → m.testBit j = true ∨ ∃ k ∈ p, j = k ∨ (acc.getD k 0).testBit j = true
  | [], m, h => .inl h
  | k :: p, m, h => by
    simp only [cloRow] at h
    rcases cloRow_bit p _ h with h | ⟨k', hk, h⟩
    · simp only [Nat.testBit_or, Bool.or_eq_true] at h
      rcases h with (h | h) | h
      · exact .inl h
      · refine .inr ⟨k, by simp, .inl ?_⟩
        rw [Nat.one_shiftLeft, Nat.testBit_two_pow] at h
        have := of_decide_eq_true h
        omega
      · exact .inr ⟨k, by simp, .inr h⟩
    · exact .inr ⟨k', by simp [hk], h⟩
theorem clo_of {all : List (List Nat)} {R : Nat → Nat → Prop} (h1 : ∀ i k, k ∈ all.getD i [] → R i k) (h2 : ∀ i k j, k ∈ all.getD i [] → R k j → R i j) :
    ∀ (l d : List (List Nat)) (acc : List Nat), all = d ++ l → acc.length = d.length → (∀ i j, (acc.getD i 0).testBit j = true → R i j) → ∀ i j, ((clo l acc).getD i 0).testBit j = true → R i j
  | [], d, acc, _, _, hacc, i, j, h => hacc i j h
  | p :: l, d, acc, hall, hlen, hacc, i, j, h => by
    simp only [clo] at h
    refine clo_of h1 h2 l (d ++ [p]) (acc ++ [cloRow acc p 0]) (by rw [hall]; simp) (by simp [hlen]) (fun i j h => ?_) i j h
    rw [List.getD_eq_getElem?_getD] at h
    by_cases hi : i < acc.length
    · rw [List.getElem?_append_left hi, ← List.getD_eq_getElem?_getD] at h
      exact hacc i j h
    · by_cases he : i = acc.length
      · subst he
        simp only [List.getElem?_concat_length, Option.getD_some] at h
        have hp : all.getD acc.length [] = p := by
          rw [hall, List.getD_eq_getElem?_getD, hlen, List.getElem?_append_right (Nat.le_refl _)]
          simp
        rcases cloRow_bit p 0 h with h | ⟨k, hk, h⟩
        · simp at h
        · rcases h with rfl | h
          · exact h1 _ _ (by rw [hp]; exact hk)
          · exact h2 _ k _ (by rw [hp]; exact hk) (hacc k j h)
      · have : (acc ++ [cloRow acc p 0])[i]? = none := List.getElem?_eq_none (by simp; omega)
        rw [this] at h
        simp at h
theorem eMode_length {M : List AIns} {c : List Nat} {n : Nat} : ∀ (l : List AIns) (k : Nat), (eMode M c n k l).length = l.length
  | [], k => rfl
  | x :: l, k => by simp [eMode, eMode_length l (k + 1)]
theorem eMode_at {M : List AIns} {c : List Nat} {n : Nat} : ∀ (l : List AIns) (k i : Nat) (y : AIns), (eMode M c n k l)[i]? = some y → ∃ x, l[i]? = some x ∧ ((y = x ∧ x.g ≠ none) ∨ (x.g = none ∧ ∃ b u, y = { x with tot := b, up := u }))
  | [], k, i, y, h => by simp [eMode] at h
  | x :: l, k, 0, y, h => by
    simp only [eMode, List.getElem?_cons_zero, Option.some.injEq] at h
    refine ⟨x, by simp, ?_⟩
    cases hc : (x.g.isNone && (x.op.makes && (ordered c n k || (x.op.isM || M.any (movedBy x))))) with
    | false =>
      rw [hc] at h
      simp only [cond_false] at h
      cases hc2 : (x.g.isNone && x.op.free) with
      | false =>
        rw [hc2] at h
        simp only [cond_false, AIns.plainly] at h
        cases hx : x.g with
        | none =>
          rw [hx] at h
          exact .inr ⟨rfl, true, [], h.symm⟩
        | some tw =>
          rw [hx] at h
          exact .inl ⟨h.symm, by simp⟩
      | true =>
        rw [hc2] at h
        simp only [Bool.and_eq_true] at hc2
        exact .inr ⟨by simpa using hc2.1, false, _, h.symm⟩
    | true =>
      rw [hc] at h
      simp only [Bool.and_eq_true] at hc
      exact .inr ⟨by simpa using hc.1, false, x.up, h.symm⟩
  | x :: l, k, i + 1, y, h => by
    simp only [eMode, List.getElem?_cons_succ] at h
    simpa using eMode_at l (k + 1) i y h

/-! ### an operation brought to the front -/
def pickL (l : List AIns) (ks : List Nat) : List AIns := ks.filterMap (l[·]?)
theorem pickL_cons {l : List AIns} {k : Nat} {i : AIns} (h : l[k]? = some i) (ks : List Nat) : pickL l (k :: ks) = i :: pickL l ks := by
  simp [pickL, h]
theorem dstsOk_spec {l : List AIns} {n lim : Nat} {pre : List Nat} (h : dstsOk l n lim pre = true) {k : Nat} {i : AIns} (hk : l[k]? = some i) (hlim : lim ≤ k) (hpre : k ∉ pre) : i.dst ≠ some n := by
  have hlt : k < l.length := (List.getElem?_eq_some_iff.1 hk).1
  have := List.all_eq_true.1 h k (List.mem_range.2 hlt)
  simp only [hk, Bool.or_eq_true, bne_iff_ne, decide_eq_true_eq, List.contains_eq_mem] at this
  rcases this with (h | h) | h
  · exact h
  · omega
  · exact absurd h hpre
theorem fOk_spec {l : List AIns} (h : fOk l = true) {k : Nat} {x : AIns} (hk : l[k]? = some x) (hf : x.f = true) : ∃ d, x.dst = some d ∧ d < 50000 ∧ ∀ j y, j ≠ k → l[j]? = some y → y.dst ≠ some d := by
  have hlt : k < l.length := (List.getElem?_eq_some_iff.1 hk).1
  have := List.all_eq_true.1 h k (List.mem_range.2 hlt)
  simp only [hk, hf, Bool.not_true, Bool.false_or, Bool.and_eq_true] at this
  cases hd : x.dst with
  | none => simp [hd] at this
  | some d =>
    simp only [hd, Bool.and_eq_true, decide_eq_true_eq] at this
    refine ⟨d, rfl, this.2.1, fun j y hj hy => ?_⟩
    have h2 := List.all_eq_true.1 this.2.2 j (List.mem_range.2 (List.getElem?_eq_some_iff.1 hy).1)
    simp only [hy, Bool.or_eq_true, bne_iff_ne, ne_eq] at h2
    rcases h2 with h2 | h2
    · exact absurd (Nat.eq_of_beq_eq_true h2) hj
    · exact h2
def Frees (l : List AIns) (ks : List Nat) (s : St) : Prop := ∀ k ∈ ks, ∀ y, l[k]? = some y → y.f = true → ∀ d, y.dst = some d → s.No d
theorem Frees.step {l : List AIns} (hfo : fOk l = true) {ks : List Nat} {s s1 : St} (h : Frees l ks s) {j : Nat} {x : AIns} (hj : l[j]? = some x) (hjk : j ∉ ks) (hs : dStep call x s = some s1) : Frees l ks s1 := fun k hk y hy hf d hd => by
  obtain ⟨d', hd', hlt, hu⟩ := fOk_spec hfo hy hf
  rw [hd] at hd'
  cases hd'
  exact dStep_no (h k hk y hy hf d hd) hlt (hu j x (fun e => hjk (e ▸ hk)) hj) hs
theorem bubble {l : List AIns} (hfo : fOk l = true) {i : Nat} {pr post : List Nat} {s' : St} : ∀ (pre : List Nat) (s : St), Frees l (pre ++ i :: post) s → (pre ++ i :: post).Pairwise (· < ·) → (∀ k ∈ pre ++ i :: post, k ∉ pr) →
    (∀ j ∈ pre, commAt l j i = true ∨ ∃ ps, dynAt l j i pr = some ps ∧ ∀ p ∈ ps, dynOk s' p = true) → runD call (pickL l (pre ++ i :: post)) s = some s' → runD call (pickL l (i :: (pre ++ post))) s = some s'
  | [], s, _, _, _, _, h => h
  | j :: pre, s, hF, hs, hun, hok, h => by
    have hj := hok j (List.mem_cons.2 (.inl rfl))
    have hxy : ∃ x y, l[j]? = some x ∧ l[i]? = some y := by
      cases hx : l[j]? with
      | none => rcases hj with h | ⟨p, h, _⟩ <;> simp [commAt, dynAt, hx] at h
      | some x =>
        cases hy : l[i]? with
        | none => rcases hj with h | ⟨p, h, _⟩ <;> simp [commAt, dynAt, hx, hy] at h
        | some y => exact ⟨x, y, rfl, rfl⟩
    obtain ⟨x, y, hx, hy⟩ := hxy
    have hrun := h
    rw [List.cons_append, pickL_cons hx] at h
    simp only [runD] at h
    cases h1 : dStep call x s with
    | none => simp [h1] at h
    | some s1 =>
      simp only [h1, Option.bind_some] at h
      have hs' : (pre ++ i :: post).Pairwise (· < ·) := (List.pairwise_cons.1 (by simpa using hs)).2
      have hjn : j ∉ pre ++ i :: post := fun hm => Nat.lt_irrefl _ ((List.pairwise_cons.1 (by simpa using hs)).1 j hm)
      have hF1 : Frees l (pre ++ i :: post) s1 := Frees.step hfo (fun k hk => hF k (List.mem_cons.2 (.inr hk))) hx hjn h1
      have ih := bubble hfo pre s1 hF1 hs' (fun k hk => hun k (List.mem_cons.2 (.inr hk))) (fun k hk => hok k (List.mem_cons.2 (.inr hk))) h
      rw [pickL_cons hy] at ih
      simp only [runD] at ih
      cases h2 : dStep call y s1 with
      | none => simp [h2] at ih
      | some s2 =>
        simp only [h2, Option.bind_some] at ih
        have hsw : ∃ s1', dStep call y s = some s1' ∧ dStep call x s1' = some s2 := by
          rcases hj with hc | ⟨p, hp, hdyn⟩
          · simp only [commAt, hx, hy] at hc
            exact swap_comm hc (fun hf d hd => hF j (by simp) x hx hf d hd) (fun hf d hd => hF i (by simp) y hy hf d hd) h1 h2
          · simp only [dynAt, hx, hy] at hp
            have hge : ∀ k ∈ j :: pre ++ i :: post, j ≤ k := by
              intro k hk
              rcases List.mem_cons.1 hk with rfl | hk
              · exact Nat.le_refl _
              · exact Nat.le_of_lt ((List.pairwise_cons.1 (by simpa using hs)).1 k hk)
            have hmem : ∀ z ∈ pickL l (j :: pre ++ i :: post), ∃ k ∈ j :: pre ++ i :: post, l[k]? = some z := by
              intro z hz
              obtain ⟨k, hk, hkz⟩ := List.mem_filterMap.1 hz
              exact ⟨k, hk, hkz⟩
            have first : ∀ n, (s'.env n).solid = true → dstsOk l n j [] = true → s.env n = s'.env n := fun n so hds => runD_solid _ _ _ hrun (n := n) (fun z hz => by
              obtain ⟨k, hk, hkz⟩ := hmem z hz
              exact dstsOk_spec hds hkz (hge k hk) (by simp)) so
            have second : ∀ n, (s'.env n).solid = true → dstsOk l n 0 pr = true → s.env n = s'.env n := fun n so hds => runD_solid _ _ _ hrun (n := n) (fun z hz => by
              obtain ⟨k, hk, hkz⟩ := hmem z hz
              exact dstsOk_spec hds hkz (Nat.zero_le _) (hun k hk)) so
            have same : ∀ n, s.env n = s'.env n → dynOk s' (n, n) = true → ∃ u, s.env n = .d u := fun n e hok => by
              simp only [dynOk, if_true, ← e] at hok
              split at hok
              · rename_i u hu
                exact ⟨u, hu⟩
              · cases hok
            split at hp
            · rename_i n m hd
              split at hp
              · rename_i hds
                cases hp
                simp only [Bool.and_eq_true] at hds
                have hdyn := hdyn (n, m) (by simp)
                obtain ⟨so1, so2⟩ := dynOk_solid hdyn
                refine swap_dyn hd ?_ h1 h2
                rw [← hdyn]
                simp only [dynOk, first n so1 hds.1, second m so2 hds.2]
              · cases hp
            · split at hp
              · rename_i hds
                cases hp
                simp only [Bool.and_eq_true, List.all_eq_true] at hds
                refine swap_de hds.1 (fun n hn => ?_) h1 h2
                have hok := hdyn (n, n) (List.mem_map.2 ⟨n, hn, rfl⟩)
                exact same n (first n (dynOk_solid hok).1 (hds.2 n hn)) hok
              · split at hp
                · rename_i hds
                  cases hp
                  simp only [Bool.and_eq_true, List.all_eq_true] at hds
                  refine swap_ed hds.1 (fun n hn => ?_) h1 h2
                  have hok := hdyn (n, n) (List.mem_map.2 ⟨n, hn, rfl⟩)
                  exact same n (second n (dynOk_solid hok).1 (hds.2 n hn)) hok
                · cases hp
        obtain ⟨s1', g1, g2⟩ := hsw
        rw [pickL_cons hy, List.cons_append, pickL_cons hx]
        simp only [runD, g1, Option.bind_some, g2]
        exact ih
end
end Go.Proofs.Ytjejjokdbbedlaa.Vm
