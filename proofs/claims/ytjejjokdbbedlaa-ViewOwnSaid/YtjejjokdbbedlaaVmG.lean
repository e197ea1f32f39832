/- Operations that make or change an object of the call's own. No condition. -/
import Derived.Test.YtjejjokdbbedlaaVmF
import Derived.ArgAppend
namespace Go.Proofs.Ytjejjokdbbedlaa.Vm
open Go Go.RowKit
set_option linter.unusedVariables false
set_option linter.unusedSimpArgs false
set_option linter.unusedSectionVars false

theorem flat_exists (n sz : Nat) (f : Nat → Nat → Value → Prop) (h : ∀ i j, i < n → j < sz → ∃ u, f i j u) :
    ∃ us : List Value, us.length = n * sz ∧ ∀ (i j : Nat), i < n → j < sz → ∃ u, us[i * sz + j]? = some u ∧ f i j u := by
  induction n with
  | zero => exact ⟨[], by simp, fun i j hi => by omega⟩
  | succ n ih =>
    obtain ⟨us, hl, hu⟩ := ih fun i j hi hj => h i j (by omega) hj
    let row : List Value := (List.range sz).map fun j => if hj : j < sz then (h n j (by omega) hj).choose else undef
    refine ⟨us ++ row, by simp [row, hl, Nat.add_mul], fun i j hi hj => ?_⟩
    by_cases hin : i < n
    · obtain ⟨u, h1, h2⟩ := hu i j hin hj
      refine ⟨u, ?_, h2⟩
      rw [List.getElem?_append_left (List.getElem?_eq_some_iff.1 h1).1]
      exact h1
    · have : i = n := by omega
      subst this
      refine ⟨(h i j (by omega) hj).choose, ?_, (h i j (by omega) hj).choose_spec⟩
      rw [List.getElem?_append_right (by rw [hl]; omega), hl, show i * sz + j - i * sz = j by omega]
      simp [row, hj]

theorem idx_lt {i n j sz : Nat} (hi : i < n) (hj : j < sz) : i * sz + j < n * sz := by
  have := Nat.mul_le_mul_right sz (show i + 1 ≤ n by omega)
  rw [Nat.add_mul] at this
  omega

/-- rows that stand for a list of values, one behind the other -/
def Flat (R : AV → Value → Prop) (sz : Nat) (rows : List (List AV)) (us : List Value) : Prop :=
  us.length = rows.length * sz ∧ (∀ e ∈ rows, e.length = sz ∧ e.all AV.one = true) ∧
    ∀ (i j : Nat) e c, rows[i]? = some e → e[j]? = some c → ∃ u, us[i * sz + j]? = some u ∧ R c u

theorem datLL_map : ∀ (rows : List (List AV)) (ds : List (List DV)), datLL rows = some ds → rows = ds.map (·.map .d)
  | [], ds, h => by simp only [datLL, Option.some.injEq] at h; subst h; rfl
  | e :: l, ds, h => by
    simp only [datLL] at h
    cases h1 : datL e with
    | none => simp [h1] at h
    | some a =>
      cases h2 : datLL l with
      | none => simp [h1, h2] at h
      | some b =>
        simp only [h1, h2, Option.some.injEq] at h
        subst h
        rw [List.map_cons, datL_map e a h1, datLL_map l b h2]

section
variable {P : Program} {w0 : Base} {S0 : Nat → Nat → Prop} {N : Nat} {ρ : Nat → Nat × Nat} {S : Nat → Nat → Prop} {st : St} {a : Act} {w : World}

theorem segOk_mk {B : Nat → Prop} {s el sz cap blk : Nat} {rows : List (List AV)} {cur : Array Value} (hρ : ρ s = (blk, cap)) (hB : ¬ B blk) (hcur : w.heap[blk]? = some (.cells cur el (0, 0)))
    (hsz : cur.size = cap * sz) (hn : rows.length ≤ cap) (hcap : cap ≤ maxLen) (hS : ∀ o, ¬ S blk o) (hrows : ∀ e ∈ rows, e.length = sz ∧ e.all AV.one = true)
    (hc : ∀ (i j : Nat) e c, rows[i]? = some e → e[j]? = some c → ∃ u, cur[i * sz + j]? = some u ∧ RdA w S ρ c u) : SegOk B w S ρ s (mkOb el sz rows) := by
  have hget : ∀ (i j : Nat), i < rows.length → j < sz → ∃ e c, rows[i]? = some e ∧ e[j]? = some c := by
    intro i j hi hj
    have hlen := (hrows _ (List.getElem_mem hi)).1
    exact ⟨rows[i], rows[i][j]'(by omega), List.getElem?_eq_getElem hi, List.getElem?_eq_getElem (by omega)⟩
  unfold mkOb
  split
  · rename_i ds hds
    have hm := datLL_map rows ds hds
    subst hm
    refine ⟨?_, ?_⟩
    · intro e he
      have := hrows (e.map .d) (List.mem_map.2 ⟨e, he, rfl⟩)
      simp only [List.length_map, List.all_map] at this
      exact ⟨this.1, by rw [← this.2]; congr⟩
    · rw [hρ]
      simp only [List.length_map] at hn hget
      refine ⟨hB, ⟨cur, hcur, hsz, fun i j hi hj => ?_⟩, hn, hcap, hS⟩
      obtain ⟨e, c, he, hcc⟩ := hget i j hi hj
      obtain ⟨u, hu, hr⟩ := hc i j e c he hcc
      refine ⟨u, hu, fun e' c' he' hc' => ?_⟩
      simp only [List.getElem?_map, he', Option.map_some, Option.some.injEq] at he
      subst he
      simp only [List.getElem?_map, hc', Option.map_some, Option.some.injEq] at hcc
      subst hcc
      simpa only [RdA] using hr
  · refine ⟨hrows, ?_⟩
    rw [hρ]
    refine ⟨hB, ⟨cur, hcur, hsz, fun i j hi hj => ?_⟩, hn, hcap, hS⟩
    obtain ⟨e, c, he, hcc⟩ := hget i j hi hj
    obtain ⟨u, hu, hr⟩ := hc i j e c he hcc
    refine ⟨u, hu, fun e' c' he' hc' => ?_⟩
    rw [he] at he'
    simp only [Option.some.injEq] at he'
    subst he'
    rw [hcc] at hc'
    simp only [Option.some.injEq] at hc'
    subst hc'
    exact hr
theorem segOk_dat {B : Nat → Prop} {s el sz cap blk : Nat} {es : List (List DV)} {cur : Array Value} (hρ : ρ s = (blk, cap)) (hB : ¬ B blk) (hcur : w.heap[blk]? = some (.cells cur el (0, 0)))
    (hsz : cur.size = cap * sz) (hn : es.length ≤ cap) (hcap : cap ≤ maxLen) (hS : ∀ o, ¬ S blk o) (hrows : ∀ e ∈ es, e.length = sz ∧ e.all DV.one = true)
    (hc : ∀ (i j : Nat) e c, es[i]? = some e → e[j]? = some c → ∃ u, cur[i * sz + j]? = some u ∧ RdD w S c u) : SegOk B w S ρ s (.dat el sz es) := by
  refine ⟨hrows, ?_⟩
  rw [hρ]
  refine ⟨hB, ⟨cur, hcur, hsz, fun i j hi hj => ?_⟩, hn, hcap, hS⟩
  have hlen := (hrows _ (List.getElem_mem hi)).1
  obtain ⟨u, hu, hr⟩ := hc i j es[i] (es[i][j]'(by omega)) (List.getElem?_eq_getElem hi) (List.getElem?_eq_getElem (by omega))
  refine ⟨u, hu, fun e' c' he' hc' => ?_⟩
  rw [List.getElem?_eq_getElem hi] at he'
  simp only [Option.some.injEq] at he'
  subst he'
  rw [List.getElem?_eq_getElem (by omega)] at hc'
  simp only [Option.some.injEq] at hc'
  subst hc'
  exact hr

/-! ### the state's changes -/
theorem Inv.putW (hI : Inv w0 S0 N ρ S st a w) {t : Nat} (ht : t < N) {av : AV} {v : Value} (hv : (∀ t want x, av ≠ .w t want x) → RdA w S ρ av v)
    (hw : ∀ t' want x, av = .w t' want x → (a.put (some t) v).tmps[t']? = some (.bool want) → RdA w S ρ x v)
    (hn : ∀ t' want x, av = .w t' want x → (a.put (some t) v).tmps[t']? ≠ some (.bool want) → v = undef) : Inv w0 S0 N ρ S (st.put t av) (a.put (some t) v) w := by
  have hsz := hI.size
  have hat : (a.put (some t) v).tmps.getD t undef = v := by simp [Act.put, Array.getD_eq_getD_getElem?, hsz, ht]
  have hne : ∀ n, n ≠ t → (a.put (some t) v).tmps[n]? = a.tmps[n]? := fun n hn => by simp [Act.put, Array.getElem?_setIfInBounds_ne (Ne.symm hn)]
  have hne' : ∀ n, n ≠ t → (a.put (some t) v).tmps.getD n undef = a.tmps.getD n undef := fun n hn => by
    rw [Array.getD_eq_getD_getElem?, Array.getD_eq_getD_getElem?, hne n hn]
  refine ⟨by simp [Act.put, hI.size], by simp [Act.put, hI.defers], fun n => ?_, fun n t' want x he h => ?_, fun n t' want x he h => ?_, hI.seg, hI.apart, hI.live, hI.up, hI.new, hI.below⟩
  · simp only [St.put]
    by_cases hn : n = t
    · subst hn
      rw [if_pos rfl, hat]
      by_cases hav : ∃ t want x, av = .w t want x
      · obtain ⟨t, want, x, rfl⟩ := hav
        simp only [RdA]
      · exact hv fun t want x he => hav ⟨t, want, x, he⟩
    · rw [if_neg hn, hne' n hn]
      have := hI.env n
      cases he : st.env n <;> simp only [he, AV.killW] at this ⊢ <;> try exact this
      split <;> simp only [RdA]
  · simp only [St.put] at he
    by_cases hn : n = t
    · subst hn
      rw [if_pos rfl] at he
      rw [hat]
      exact hw t' want x he h
    · rw [if_neg hn] at he
      rw [hne' n hn]
      cases he2 : st.env n <;> simp only [he2, AV.killW, reduceCtorEq] at he
      rename_i t2 want2 x2
      split at he
      · cases he
      · rename_i htt
        simp only [AV.w.injEq] at he
        obtain ⟨rfl, rfl, rfl⟩ := he
        rw [hne t2 htt] at h
        exact hI.whens n t2 want2 x2 he2 h
  · simp only [St.put] at he
    by_cases hnt : n = t
    · subst hnt
      rw [if_pos rfl] at he
      rw [hat]
      exact hn t' want x he h
    · rw [if_neg hnt] at he
      rw [hne' n hnt]
      cases he2 : st.env n <;> simp only [he2, AV.killW, reduceCtorEq] at he
      rename_i t2 want2 x2
      split at he
      · cases he
      · rename_i htt
        simp only [AV.w.injEq] at he
        obtain ⟨rfl, rfl, rfl⟩ := he
        rw [hne t2 htt] at h
        exact hI.nots n t2 want2 x2 he2 h
theorem Inv.put (hI : Inv w0 S0 N ρ S st a w) {t : Nat} (ht : t < N) {av : AV} {v : Value} (hv : RdA w S ρ av v) (hw : ∀ t' want x, av = .w t' want x → False := by intro _ _ _ h; cases h) : Inv w0 S0 N ρ S (st.put t av) (a.put (some t) v) w :=
  hI.putW ht (fun _ => hv) (fun t' want x he => (hw t' want x he).elim) fun t' want x he => (hw t' want x he).elim
theorem Inv.putO (hI : Inv w0 S0 N ρ S st a w) {t : Option Nat} (ht : ∀ d, t = some d → d < N) {v : Value} : Inv w0 S0 N ρ S (st.putO t .undef) (a.put t v) w := by
  cases t with
  | none => exact hI
  | some d => exact hI.put (ht d rfl) (by simp only [RdA])

theorem Inv.drop (hI : Inv w0 S0 N ρ S st a w) (s : Nat) : Inv w0 S0 N ρ S (st.drop s) a w := by
  refine ⟨hI.size, hI.defers, hI.env, hI.whens, hI.nots, fun n o hn => ?_, fun n m o o' hn hm => ?_, hI.live, hI.up, hI.new, hI.below⟩
  · simp only [St.drop] at hn
    split at hn
    · cases hn
    · exact hI.seg n o hn
  · simp only [St.drop] at hn hm
    split at hn
    · cases hn
    · split at hm
      · cases hm
      · exact hI.apart n m o o' hn hm

theorem Inv.drew (hI : Inv w0 S0 N ρ S st a w) (k : Nat) : Inv w0 S0 N ρ S st a { w with drawn := k } := by
  have hk : Kept w { w with drawn := k } S S := ⟨fun _ _ h => h, fun _ _ _ _ h => h⟩
  refine ⟨hI.size, hI.defers, fun t => RdA.kept hk _ _ (hI.env t), fun n t want v he h => RdA.kept hk _ _ (hI.whens n t want v he h), hI.nots, fun s o hs => SegOk.kept hk (hI.seg s o hs) rfl (hI.seg s o hs).lt.2.2, hI.apart, hI.live, hI.up, hI.new, ?_⟩
  exact ⟨hI.below.os, hI.below.tape, hI.below.output, hI.below.size, hI.below.block⟩

theorem SegOk.site {B : Nat → Prop} {s t : Nat} {ρ' : Nat → Nat × Nat} {o o' : Ob} (hρ : ∀ n, n ≠ t → ρ' n = ρ n) (hst : s ≠ t) (ho : Ob.kill t o = some o') (h : SegOk B w S ρ s o) : SegOk B w S ρ' s o' := by
  unfold Ob.kill at ho
  split at ho
  · cases ho
  · rename_i hh
    simp only [Option.some.injEq] at ho
    subst ho
    cases o with
    | dat el sz es =>
      refine ⟨h.1, ?_⟩
      rw [hρ s hst]
      exact h.2
    | mix el sz es =>
      refine ⟨h.1, ?_⟩
      rw [hρ s hst]
      refine h.2.mono rfl h.2.apart fun i j u hu e c he hc => RdA.site t hρ c u ?_ (hu e c he hc)
      simp only [Ob.has, Bool.not_eq_true, List.any_eq_false] at hh
      have := hh e (List.mem_of_getElem? he)
      have key : ∀ (l : List AV), hasL t l = false → ∀ c ∈ l, c.has t = false := by
        intro l
        induction l with
        | nil => simp
        | cons x l ih =>
          intro hl c hc
          simp only [hasL, Bool.or_eq_false_iff] at hl
          rcases List.mem_cons.1 hc with rfl | hc
          · exact hl.1
          · exact ih hl.2 c hc
      exact key e (by simpa using this) c (List.mem_of_getElem? hc)

/-- a site's object is another one, in a block that is new or that no object of the state lies in -/
theorem Inv.at_ (hI : Inv w0 S0 N ρ S st a w) {t : Nat} {ob : Ob} {g cap : Nat} {w1 : World} (hbel : BelowP w0.old w w1) (hold : ∀ k, k < w.heap.size → k ≠ g → w1.heap[k]? = w.heap[k]?)
    (hfree : ∀ s o, st.seg s = some o → (ρ s).1 ≠ g) (hg : ∀ o, ¬ S g o)
    (hob : SegOk w0.old w1 S (fun n => if n = t then (g, cap) else ρ n) t ob) : Inv w0 S0 N (fun n => if n = t then (g, cap) else ρ n) S (st.at_ t ob) a w1 := by
  have hρ : ∀ n, n ≠ t → (fun n => if n = t then (g, cap) else ρ n) n = ρ n := fun n hn => by simp [hn]
  have hk : Kept w w1 S S := ⟨fun _ _ h => h, fun b o hb u hu => by
    have hbg : b ≠ g := fun e => hg o (e ▸ hb)
    rw [World.cell?] at hu ⊢
    rw [hold b (hI.live b o hb) hbg]; exact hu⟩
  refine ⟨hI.size, hI.defers, fun n => ?_, fun n t' want v he h => ?_, fun n t' want v he h => ?_, fun n o hn => ?_, fun n m o o' hn hm he => ?_, fun b o hb => Nat.lt_of_lt_of_le (hI.live b o hb) hbel.size, hI.up, hI.new, hI.below.trans hbel⟩
  · exact RdA.kill t hρ _ _ (RdA.kept hk _ _ (hI.env n))
  · simp only [St.at_, AV.kill] at he
    split at he
    · cases he
    · rename_i hh
      have hno : v.has t = false := by
        rw [he] at hh
        simpa only [AV.has, Bool.not_eq_true] using hh
      exact RdA.site t hρ v _ hno (RdA.kept hk _ _ (hI.whens n t' want v he h))
  · simp only [St.at_, AV.kill] at he
    split at he
    · cases he
    · exact hI.nots n t' want v he h
  · simp only [St.at_] at hn
    by_cases hnt : n = t
    · subst hnt
      simp only [if_true, Option.some.injEq] at hn
      subst hn
      exact hob
    · simp only [hnt, if_false] at hn
      cases hs : st.seg n with
      | none => simp [hs] at hn
      | some o1 =>
        simp only [hs, Option.bind_some] at hn
        have h1 := hI.seg n o1 hs
        exact SegOk.site hρ hnt hn (SegOk.kept hk h1 (hold _ h1.lt.2.1 (hfree n o1 hs)) h1.lt.2.2)
  · simp only [St.at_] at hn hm
    by_cases hnt : n = t
    · by_cases hmt : m = t
      · omega
      · simp only [hmt, if_false] at hm
        cases hs : st.seg m with
        | none => simp [hs] at hm
        | some o1 =>
          simp only [hnt, hmt, if_true, if_false] at he
          exact absurd he.symm (hfree m o1 hs)
    · simp only [hnt, if_false] at hn
      cases hs : st.seg n with
      | none => simp [hs] at hn
      | some o1 =>
        by_cases hmt : m = t
        · simp only [hnt, hmt, if_true, if_false] at he
          exact absurd he (hfree n o1 hs)
        · simp only [hmt, if_false] at hm
          cases hs2 : st.seg m with
          | none => simp [hs2] at hm
          | some o2 =>
            simp only [hnt, hmt, if_false] at he
            exact hI.apart n m o1 o2 hs hs2 he

theorem below_alloc' (w : World) (B : Nat) (h : B ≤ w.heap.size) (o : Obj) : Below B w (w.alloc o) := (Below.refl B w).alloc h o

/-- a new block -/
theorem Inv.alloc (hI : Inv w0 S0 N ρ S st a w) {t : Nat} {ob : Ob} {cap : Nat} {cs : Array Value} {el : TypeId}
    (hob : ∀ (w1 : World) (ρ' : Nat → Nat × Nat), w1 = w.alloc (.cells cs el) → ρ' = (fun n => if n = t then (w.heap.size, cap) else ρ n) → SegOk w0.old w1 S ρ' t ob) :
    Inv w0 S0 N (fun n => if n = t then (w.heap.size, cap) else ρ n) S (st.at_ t ob) a (w.alloc (.cells cs el)) := by
  refine hI.at_ (((Below.refl _ w).alloc (Nat.le_refl _) _).toP fun k hk => Nat.lt_of_lt_of_le (w0.lt k hk) hI.below.size) (fun k hk _ => Below.heap_alloc _ _ _ hk) (fun s o hs => ?_) (fun o ho => ?_) (hob _ _ rfl rfl)
  · have := (hI.seg s o hs).lt.2.1
    omega
  · have := hI.live _ _ ho
    omega

theorem size_not_stable (hI : Inv w0 S0 N ρ S st a w) (o : Nat) : ¬ S w.heap.size o := fun h => by
  have := hI.live _ _ h
  omega
theorem kept_alloc (hI : Inv w0 S0 N ρ S st a w) (o : Obj) : Kept w (w.alloc o) S S := ⟨fun _ _ h => h, fun b p hb u hu => by
  rw [World.cell?] at hu ⊢
  rw [Below.heap_alloc _ _ _ (hI.live b p hb)]; exact hu⟩
theorem heap_last (w : World) (o : Obj) : (w.alloc o).heap[w.heap.size]? = some o := by
  show (w.heap.push o)[w.heap.size]? = _
  simp

theorem hasL_mem : ∀ (l : List AV) (t : Nat), hasL t l = false → ∀ c ∈ l, c.has t = false
  | [], t, _, c, hc => by cases hc
  | x :: l, t, h, c, hc => by
    simp only [hasL, Bool.or_eq_false_iff] at h
    rcases List.mem_cons.1 hc with rfl | hc
    · exact h.1
    · exact hasL_mem l t h.2 c hc

/-- a variable of the call's own -/
theorem box_sound (hI : Inv w0 S0 N ρ S st a w) {t el sz : Nat} (ht : t < N) {x : AV} {v : Value} (hx : RdA w S ρ x v) (hlen : x.cells.length = sz) (hone : x.cells.all AV.one = true) (hno : hasL t x.cells = false) :
    ∃ u w1, (newVar el v).run P w = .ok u w1 ∧ InvE w0 S0 N ((st.at_ t (mkOb el sz [x.cells])).put t (.ptr t sz 0 0)) (a.put (some t) (.pointer (some u))) w1 := by
  have hcl := RdA.cells hx hone
  have hl := RdAL.length _ _ hcl
  simp only [Array.length_toList] at hl
  refine ⟨⟨w.heap.size, 0, none⟩, w.alloc (.cells v.cells el), by simp [newVar, newRow], ?_⟩
  have hk := kept_alloc hI (.cells v.cells el)
  have h1 := hI.alloc (t := t) (ob := mkOb el sz [x.cells]) (cap := 1) (cs := v.cells) (el := el) (fun w1 ρ' hw hρ => by
    subst hw hρ
    refine segOk_mk (blk := w.heap.size) (cap := 1) (cur := v.cells) (by simp) (hI.fresh (Nat.le_refl _)) (heap_last _ _) (by omega) (by simp) (by simp [maxLen]) (size_not_stable hI) ?_ ?_
    · intro e he
      simp only [List.mem_singleton] at he
      subst he
      exact ⟨hlen, hone⟩
    · intro i j e c he hc
      cases i with
      | succ i => simp at he
      | zero =>
        simp only [List.getElem?_cons_zero, Option.some.injEq] at he
        subst he
        obtain ⟨u, hu, hr⟩ := RdAL.at _ _ hcl j c hc
        refine ⟨u, by simpa using hu, ?_⟩
        exact RdA.site t (fun n hn => by simp [hn]) c u (hasL_mem _ t hno c (List.mem_of_getElem? hc)) (RdA.kept hk c u hr))
  exact ⟨_, _, h1.put ht (by simp [RdA])⟩

theorem RdL_of_cells {z : List DV} {v : Value} (h : mapO cCell v.cells.toList = some z) : RdL w S z v.cells.toList := (cCells_sound w S h).1

theorem alloc_sound (hI : Inv w0 S0 N ρ S st a w) {t el sz : Nat} (ht : t < N) {z : List DV} (hz : cZero P el = some z) (hlen : z.length = sz) (hone : z.all DV.one = true) :
    ∃ u w1, (Instr.alloc el true (.tuple #[])).run P w = .ok u w1 ∧ InvE w0 S0 N ((st.at_ t (.dat el sz [z])).put t (.ptr t sz 0 0)) (a.put (some t) u) w1 := by
  unfold cZero at hz
  cases hi : P.info? el with
  | none => simp [hi] at hz
  | some it =>
    cases hzz : it.zero with
    | none => simp [hi, hzz] at hz
    | some zv =>
      simp only [hi, hzz] at hz
      have hk := kept_alloc hI (.cells zv.cells el)
      have hcl := fun (w' : World) => RdL_of_cells (w := w') (S := S) hz
      have hl := RdL.length _ _ (hcl w)
      simp only [Array.length_toList] at hl
      refine ⟨.pointer (some ⟨w.heap.size, 0, none⟩), w.alloc (.cells zv.cells el), by simp [Instr.alloc, zeroValue, typeInfo, hi, hzz, newVar, newRow], ?_⟩
      have h1 := hI.alloc (t := t) (ob := .dat el sz [z]) (cap := 1) (cs := zv.cells) (el := el) (fun w1 ρ' hw hρ => by
        subst hw hρ
        refine segOk_dat (blk := w.heap.size) (cap := 1) (cur := zv.cells) (by simp) (hI.fresh (Nat.le_refl _)) (heap_last _ _) (by omega) (by simp) (by simp [maxLen]) (size_not_stable hI) ?_ ?_
        · intro e he
          simp only [List.mem_singleton] at he
          subst he
          exact ⟨hlen, hone⟩
        · intro i j e c he hc
          cases i with
          | succ i => simp at he
          | zero =>
            simp only [List.getElem?_cons_zero, Option.some.injEq] at he
            subst he
            obtain ⟨u, hu, hr⟩ := RdL.at _ _ (hcl _) j c hc
            exact ⟨u, by simpa using hu, hr⟩)
      exact ⟨_, _, h1.put ht (by simp [RdA])⟩

theorem kept_below (hI : Inv w0 S0 N ρ S st a w) {w' : World} (hb : BelowP (fun k => k < w.heap.size) w w') {S' : Nat → Nat → Prop} (hS : ∀ b o, S b o → S' b o) : Kept w w' S S' := ⟨hS, fun b p hbp u hu => by
  rw [World.cell?] at hu ⊢
  rw [hb.block b (hI.live b p hbp)]; exact hu⟩

/-- the state behind a call that has not touched its objects -/
theorem Inv.called (hI : Inv w0 S0 N ρ S st a w) {w' : World} (hb : BelowP (fun k => k < w.heap.size) w w') {S' : Nat → Nat → Prop} (hS : ∀ b o, S b o → S' b o) (hnew : ∀ b o, S' b o → S b o ∨ ¬ b < w.heap.size)
    (hlive : ∀ b o, S' b o → b < w'.heap.size) : Inv w0 S0 N ρ S' st a w' := by
  have hk := kept_below hI hb hS
  refine ⟨hI.size, hI.defers, fun t => RdA.kept hk _ _ (hI.env t), fun n t want v he h => RdA.kept hk _ _ (hI.whens n t want v he h), hI.nots, fun s o hs => ?_, hI.apart, hlive, fun b o h => hS b o (hI.up b o h), ?_, hI.below.trans (hb.mono fun k hk => Nat.lt_of_lt_of_le (w0.lt k hk) hI.below.size)⟩
  · have hl := (hI.seg s o hs).lt
    refine SegOk.kept hk (hI.seg s o hs) (hb.block _ hl.2.1) fun p hp => ?_
    rcases hnew _ _ hp with h | h
    · exact hl.2.2 p h
    · omega
  · intro b o h
    rcases hnew b o h with h | h
    · exact hI.new b o h
    · exact .inr (hI.fresh (Nat.le_of_not_lt h))

end
end Go.Proofs.Ytjejjokdbbedlaa.Vm
