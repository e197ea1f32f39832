/- Slices that are made, grown, stored into. No condition. -/
import Derived.Test.YtjejjokdbbedlaaVmG
namespace Go.Proofs.Ytjejjokdbbedlaa.Vm
open Go Go.RowKit
set_option linter.unusedVariables false
set_option linter.unusedSimpArgs false
set_option linter.unusedSectionVars false

theorem idx_ne {i i' j j' sz : Nat} (hi : i ≠ i') (hj : j < sz) (hj' : j' < sz) : i * sz + j ≠ i' * sz + j' := by
  rcases Nat.lt_or_gt_of_ne hi with h | h
  · have := idx_lt (n := i') (i := i) h hj
    omega
  · have := idx_lt (n := i) (i := i') h hj'
    omega

theorem splice_at {α : Type} (us : List α) (off : Nat) (cs : List α) (h : off + cs.length ≤ us.length) (p : Nat) :
    (splice us off cs)[p]? = if off ≤ p ∧ p < off + cs.length then cs[p - off]? else us[p]? := by
  unfold splice
  simp only [List.append_assoc, List.getElem?_append, List.length_take, List.getElem?_take, List.getElem?_drop]
  have hm : min off us.length = off := by omega
  rw [hm]
  by_cases h1 : p < off
  · rw [if_pos h1, if_pos h1, if_neg (by omega)]
  · rw [if_neg h1]
    by_cases h2 : p - off < cs.length
    · rw [if_pos h2, if_pos (by omega)]
    · rw [if_neg h2, if_neg (by omega)]
      congr 1
      omega

section
variable {P : Program} {w0 : Base} {S0 : Nat → Nat → Prop} {N : Nat} {ρ : Nat → Nat × Nat} {S : Nat → Nat → Prop} {st : St} {a : Act} {w : World}

theorem Flat.set {R : AV → Value → Prop} {sz i : Nat} {rows : List (List AV)} {us : List Value} {cs : List AV} {vs : List Value} (h : Flat R sz rows us) (hi : i < rows.length) (hcs : cs.length = sz) (hone : cs.all AV.one = true)
    (hvs : vs.length = sz) (hR : ∀ (j : Nat) c, cs[j]? = some c → ∃ u, vs[j]? = some u ∧ R c u) : Flat R sz (rows.set i cs) (splice us (i * sz) vs) := by
  obtain ⟨h1, h2, h3⟩ := h
  have hfit : i * sz + vs.length ≤ us.length := by
    rw [h1, hvs]
    have := Nat.mul_le_mul_right sz (show i + 1 ≤ rows.length by omega)
    rw [Nat.add_mul] at this
    omega
  refine ⟨?_, ?_, ?_⟩
  · simp only [splice, List.length_append, List.length_take, List.length_drop, List.length_set]
    omega
  · intro e he
    rcases List.mem_or_eq_of_mem_set he with he | rfl
    · exact h2 e he
    · exact ⟨hcs, hone⟩
  · intro k j e c he hc
    have hjl : j < e.length := (List.getElem?_eq_some_iff.1 hc).1
    rw [List.getElem?_set] at he
    rw [splice_at _ _ _ hfit]
    by_cases hk : i = k
    · subst hk
      rw [if_pos rfl, if_pos hi] at he
      simp only [Option.some.injEq] at he
      subst he
      rw [if_pos (by omega), show i * sz + j - i * sz = j by omega]
      exact hR j c hc
    · rw [if_neg hk] at he
      have hel := (h2 e (List.mem_of_getElem? he)).1
      have hne : ¬ (i * sz ≤ k * sz + j ∧ k * sz + j < i * sz + vs.length) := by
        intro hh
        rcases Nat.lt_or_gt_of_ne hk with h | h
        · have := idx_lt (n := k) (i := i) (j := 0) (sz := sz) h (by omega)
          have h5 := Nat.mul_le_mul_right sz (show i + 1 ≤ k by omega)
          rw [Nat.add_mul] at h5
          omega
        · have := idx_lt (n := i) (i := k) (j := j) (sz := sz) h (by omega)
          omega
      rw [if_neg hne]
      exact h3 k j e c he hc

theorem rows_sound (hI : Inv w0 S0 N ρ S st a w) {sz len : Nat} : ∀ (parts : List (Nat × Operand)) (aps : List (Nat × AX)) (rows r : List (List AV)) (us : List Value), mapO cPart1 parts = some aps →
    rows.length = len → Flat (RdA w S ρ) sz rows us → rowsSet st sz rows aps = some r →
      ∃ vs : List Value, Instr.fill (fun i => some (i * sz, sz)) us.toArray (parts.map fun (i, x) => (i, a.eval x)) = some vs.toArray ∧ Flat (RdA w S ρ) sz r vs ∧ r.length = len
  | [], aps, rows, r, us, hm, hlen, hf, h => by
    simp only [mapO, Option.some.injEq] at hm; subst hm
    simp only [rowsSet, Option.some.injEq] at h; subst h
    exact ⟨us, by simp [Instr.fill], hf, hlen⟩
  | (i, x) :: parts, aps, rows, r, us, hm, hlen, hf, h => by
    simp only [mapO, cPart1] at hm
    cases hx : cAX x with
    | none => simp [hx] at hm
    | some ax =>
      cases hm' : mapO cPart1 parts with
      | none => simp [hx, hm'] at hm
      | some aps' =>
        simp only [hx, hm', Option.map_some, Option.some.injEq] at hm
        subst hm
        simp only [rowsSet] at h
        split at h
        · rename_i hcond
          obtain ⟨k1, k2, k3⟩ := hcond
          have hv := ax_sound hI hx
          have hcl := RdA.cells hv k3
          have hclen := RdAL.length _ _ hcl
          have hsize : (a.eval x).cells.size = sz := by
            simp only [Array.length_toList] at hclen
            omega
          have hnew := hf.set k2 k1 k3 (vs := (a.eval x).cells.toList) (by simpa using hsize) (fun j c hc => RdAL.at _ _ hcl j c hc)
          obtain ⟨vs, h1, h2, h3⟩ := rows_sound hI parts aps' _ r _ hm' (by simpa using hlen) hnew h
          refine ⟨vs, ?_, h2, h3⟩
          have hfit : i * sz + sz ≤ us.length := by
            rw [hf.1]
            have := Nat.mul_le_mul_right sz (show i + 1 ≤ rows.length by omega)
            rw [Nat.add_mul] at this
            omega
          have hfold : ((a.eval x).cells.zipIdx.foldl (fun cs (c, j) => cs.setIfInBounds (i * sz + j) c) us.toArray) = (splice us (i * sz) (a.eval x).cells.toList).toArray :=
            fill_sound.fold_splice us (i * sz) (a.eval x).cells (by omega)
          simp only [List.map_cons, Instr.fill]
          rw [if_neg (by simp [hsize]; omega), hfold]
          exact h1
        · cases h

theorem zeros_flat {w' : World} (z : Array Value) (zs : List DV) (sz n : Nat) (hz : mapO cCell z.toList = some zs) (hl : zs.length = sz) (hsz : 0 < sz) :
    ((Array.range (n * sz)).map (z[· % z.size]!)).size = n * sz ∧ ∀ (i j : Nat), i < n → j < sz → ∀ c, zs[j]? = some c → ∃ u, ((Array.range (n * sz)).map (z[· % z.size]!))[i * sz + j]? = some u ∧ RdD w' S c u := by
  have hcl := (cCells_sound w' S hz).1
  have hlen := RdL.length _ _ hcl
  simp only [Array.length_toList] at hlen
  refine ⟨by simp, fun i j hi hj c hc => ?_⟩
  obtain ⟨u, hu, hr⟩ := RdL.at _ _ hcl j c hc
  refine ⟨u, ?_, hr⟩
  have hlt := idx_lt hi hj
  have hmod : (i * sz + j) % z.size = j := by
    rw [hlen, hl, Nat.add_comm, Nat.add_mul_mod_self_right, Nat.mod_eq_of_lt hj]
  simp only [Array.getElem?_map]
  rw [Array.getElem?_range]
  rw [if_pos hlt]
  simp only [Option.map_some, Option.some.injEq, hmod]
  have : z[j]? = some u := by simpa using hu
  simp [getElem!_def, this]

theorem run_buildSlice_of {T e sz len : Nat} (hT : P.underlying T = some (.slice e)) (hs : sizeT P e = some sz) (hfit : len * sz ≤ 16777216) (parts : Array (Nat × Value)) (zc : Array Value)
    (hz : (if len * sz = 0 then pure #[] else do pure (← zeroValue e).cells : Sem (Array Value)).run P w = .ok zc w) (cells : Array Value)
    (hf : Instr.fill (fun i => some (i * sz, sz)) ((Array.range (len * sz)).map (zc[· % zc.size]!)) parts.toList = some cells) :
    (Instr.buildSlice T len parts).run P w = .ok (.slice (some ⟨w.heap.size, 0, none⟩) len len) (w.alloc (.cells cells e)) := by
  have hno : ¬ (len * sz > 2 ^ 24) := by omega
  unfold Instr.buildSlice
  simp only [Sem.run_bind, run_underlying hT, Result.andThen_ok, run_sizeT hs]
  rw [if_neg hno]
  by_cases h0 : len * sz = 0
  · rw [if_pos h0] at hz ⊢
    simp only [Sem.run_pure, Result.ok.injEq, and_true] at hz
    subst hz
    simp only [Sem.run_bind, Sem.run_pure, Result.andThen_ok, hf]
    simp [newRow]
  · rw [if_neg h0] at hz ⊢
    cases hr : (zeroValue e).run P w with
    | halt x w' => simp [hr] at hz
    | ok zv w' =>
      simp only [Sem.run_bind, hr, Result.andThen_ok, Sem.run_pure, Result.ok.injEq] at hz
      obtain ⟨rfl, rfl⟩ := hz
      simp only [Sem.run_bind, hr, Sem.run_pure, Result.andThen_ok, hf]
      simp [newRow]

theorem bslice_run (hI : Inv w0 S0 N ρ S st a w) {T e sz len : Nat} (hT : P.underlying T = some (.slice e)) (hs : sizeT P e = some sz) (hsz : 0 < sz) {z : List DV} (hz : cZero P e = some z)
    (hzl : z.length = sz) (hzo : z.all DV.one = true) (hfit : len * sz ≤ 16777216) {parts : Array (Nat × Operand)} {aps : List (Nat × AX)} (hm : mapO cPart1 parts.toList = some aps) {rows : List (List AV)}
    (hr : rowsSet st sz (List.replicate len (z.map .d)) aps = some rows) :
    ∃ vs : List Value, (Instr.buildSlice T len (parts.map fun (i, x) => (i, a.eval x))).run P w = .ok (.slice (some ⟨w.heap.size, 0, none⟩) len len) (w.alloc (.cells vs.toArray e)) ∧ Flat (RdA w S ρ) sz rows vs ∧ rows.length = len ∧ len ≤ maxLen := by
  unfold cZero at hz
  cases hi : P.info? e with
  | none => simp [hi] at hz
  | some it =>
    cases hzz : it.zero with
    | none => simp [hi, hzz] at hz
    | some zv =>
      simp only [hi, hzz] at hz
      have hsize : it.size = sz := by simpa [sizeT, hi] using hs
      let zc : Array Value := if len * sz = 0 then #[] else zv.cells
      have hflat0 : Flat (RdA w S ρ) sz (List.replicate len (z.map .d)) ((Array.range (len * sz)).map (zc[· % zc.size]!)).toList := by
        refine ⟨by simp, ?_, ?_⟩
        · intro e' he'
          rw [List.mem_replicate] at he'
          obtain ⟨_, rfl⟩ := he'
          refine ⟨by simpa using hzl, ?_⟩
          rw [List.all_map]
          rw [← hzo]
          congr
        · intro i j e' c he' hc
          have hi' : i < len := by
            have := (List.getElem?_eq_some_iff.1 he').1
            simpa using this
          have he'' : e' = z.map .d := by
            rw [List.getElem?_replicate] at he'
            rw [if_pos hi'] at he'
            exact (Option.some.inj he').symm
          subst he''
          simp only [List.getElem?_map, Option.map_eq_some_iff] at hc
          obtain ⟨c', hc', rfl⟩ := hc
          have hj : j < sz := by rw [← hzl]; exact (List.getElem?_eq_some_iff.1 hc').1
          have hpos : ¬ len * sz = 0 := by
            intro h0
            rcases Nat.mul_eq_zero.1 h0 with h0 | h0 <;> omega
          have hzc : zc = zv.cells := if_neg hpos
          rw [hzc]
          obtain ⟨_, h2⟩ := zeros_flat (S := S) (w' := w) zv.cells z sz len hz hzl hsz
          obtain ⟨u, hu, hru⟩ := h2 i j hi' hj c' hc'
          exact ⟨u, by rw [Array.getElem?_toList]; exact hu, by simpa only [RdA] using hru⟩
      obtain ⟨vs, h1, h2, h3⟩ := rows_sound hI (len := len) parts.toList aps _ rows _ hm (by simp) hflat0 hr
      refine ⟨vs, ?_, h2, h3, by
        have : len ≤ len * sz := Nat.le_mul_of_pos_right len hsz
        simp only [maxLen]; omega⟩
      · refine run_buildSlice_of hT hs hfit _ zc ?_ _ ?_
        · by_cases h0 : len * sz = 0
          · have hzc : zc = #[] := if_pos h0
            rw [if_pos h0, hzc]
            rfl
          · have hzc : zc = zv.cells := if_neg h0
            rw [if_neg h0, hzc]
            simp [zeroValue, typeInfo, hi, hzz]
        · have hm1 : (parts.map fun (i, x) => (i, a.eval x)).toList = parts.toList.map fun (i, x) => (i, a.eval x) := by simp
          rw [hm1]
          simpa only [Array.toArray_toList] using h1

theorem bslice_sound (hI : Inv w0 S0 N ρ S st a w) {t T e sz len : Nat} (ht : t < N) (hT : P.underlying T = some (.slice e)) (hs : sizeT P e = some sz) (hsz : 0 < sz) {z : List DV} (hz : cZero P e = some z)
    (hzl : z.length = sz) (hzo : z.all DV.one = true) (hfit : len * sz ≤ 16777216) {parts : Array (Nat × Operand)} {aps : List (Nat × AX)} (hm : mapO cPart1 parts.toList = some aps) {rows : List (List AV)}
    (hr : rowsSet st sz (List.replicate len (z.map .d)) aps = some rows) (hno : rows.any (hasL t) = false) :
    ∃ u w1, (Instr.buildSlice T len (parts.map fun (i, x) => (i, a.eval x))).run P w = .ok u w1 ∧ InvE w0 S0 N ((st.at_ t (mkOb e sz rows)).put t (.aref t sz 0 len)) (a.put (some t) u) w1 := by
  obtain ⟨vs, hrun, h2, hlenr, hmax⟩ := bslice_run hI hT hs hsz hz hzl hzo hfit hm hr
  have hk := kept_alloc hI (.cells vs.toArray e)
  refine ⟨.slice (some ⟨w.heap.size, 0, none⟩) len len, w.alloc (.cells vs.toArray e), hrun, ?_⟩
  have hx := hI.alloc (t := t) (ob := mkOb e sz rows) (cap := len) (cs := vs.toArray) (el := e) (fun w1 ρ' hw hρ => by
    subst hw hρ
    refine segOk_mk (blk := w.heap.size) (cap := len) (cur := vs.toArray) (by simp) (hI.fresh (Nat.le_refl _)) (heap_last _ _) (by simp [h2.1, hlenr]) (by omega) hmax (size_not_stable hI) h2.2.1 ?_
    intro i j e' c he' hc
    obtain ⟨u, hu, hru⟩ := h2.2.2 i j e' c he' hc
    refine ⟨u, by simpa using hu, ?_⟩
    refine RdA.site t (fun n hn => by simp [hn]) c u ?_ (RdA.kept hk c u hru)
    rw [List.any_eq_false] at hno
    have := hno e' (List.mem_of_getElem? he')
    exact hasL_mem e' t (by simpa using this) c (List.mem_of_getElem? hc))
  refine ⟨_, _, hx.put ht ?_⟩
  simp only [RdA, if_true]
  exact ⟨_, _, rfl, fun _ => by simp, fun _ => rfl, Nat.le_refl _, rfl⟩

/-- the same, as a slice that is never written again -/
theorem bslice_data (hI : Inv w0 S0 N ρ S st a w) {T e sz len : Nat} (hT : P.underlying T = some (.slice e)) (hs : sizeT P e = some sz) (hsz : 0 < sz) {z : List DV} (hz : cZero P e = some z)
    (hzl : z.length = sz) (hzo : z.all DV.one = true) (hfit : len * sz ≤ 16777216) {parts : Array (Nat × Operand)} {aps : List (Nat × AX)} (hm : mapO cPart1 parts.toList = some aps) {rows : List (List AV)}
    (hr : rowsSet st sz (List.replicate len (z.map .d)) aps = some rows) {ds : List (List DV)} (hds : datLL rows = some ds) :
    ∃ u w1 S', (Instr.buildSlice T len (parts.map fun (i, x) => (i, a.eval x))).run P w = .ok u w1 ∧ (∀ st2, Inv w0 S0 N ρ S st2 a w → Inv w0 S0 N ρ S' st2 a w1) ∧ RdD w1 S' (.sl .tight sz ds) u := by
  obtain ⟨vs, hrun, h2, hlenr, hmax⟩ := bslice_run hI hT hs hsz hz hzl hzo hfit hm hr
  have hb : BelowP (fun k => k < w.heap.size) w (w.alloc (.cells vs.toArray e)) := (below_alloc' w _ (Nat.le_refl _) _).toP fun _ h => h
  have hlive : ∀ b o, (S b o ∨ b = w.heap.size) → b < (w.alloc (.cells vs.toArray e)).heap.size := by
    have hsize : (w.alloc (.cells vs.toArray e)).heap.size = w.heap.size + 1 := by
      show (w.heap.push _).size = _
      simp
    rintro b o (h | rfl)
    · have := hI.live b o h
      omega
    · omega
  have hkk : Kept w (w.alloc (.cells vs.toArray e)) S fun b o => S b o ∨ b = w.heap.size := kept_below hI hb fun _ _ h => .inl h
  refine ⟨_, _, fun b o => S b o ∨ b = w.heap.size, hrun, fun st2 hI2 => hI2.called hb (fun _ _ h => .inl h) (fun b o h => h.imp id fun h => by omega) hlive, ?_⟩
  have hmap := datLL_map rows ds hds
  subst hmap
  simp only [List.length_map] at hlenr
  simp only [RdD]
  refine ⟨_, w.heap.size, 0, len, by rw [hlenr], fun _ => rfl, by omega, fun _ => by omega, RdE.mk _ _ _ _ fun i e' he' => ?_⟩
  have hrow := h2.2.1 (e'.map .d) (List.mem_map.2 ⟨e', List.mem_of_getElem? he', rfl⟩)
  simp only [List.length_map] at hrow
  refine ⟨hrow.1, RdC.mk _ _ _ fun j c hc => ⟨.inr rfl, ?_⟩⟩
  obtain ⟨u, hu, hru⟩ := h2.2.2 i j (e'.map .d) (.d c) (by simp [he']) (by simp [hc])
  refine ⟨u, ?_, RdD.kept hkk c u (by simpa only [RdA] using hru)⟩
  rw [Nat.zero_add, cell_of_row _ _ _ vs.toArray e (0, 0) (heap_last _ _)]
  simpa using hu

/-- a variable that is never written again -/
theorem box_data (hI : Inv w0 S0 N ρ S st a w) {el : TypeId} {x : AV} {v : Value} (hx : RdA w S ρ x v) {ds : List DV} (hds : datL x.cells = some ds) (hone : x.cells.all AV.one = true) :
    ∃ u w1 S', (newVar el v).run P w = .ok u w1 ∧ (∀ st2, Inv w0 S0 N ρ S st2 a w → Inv w0 S0 N ρ S' st2 a w1) ∧ RdD w1 S' (.rptr ds 0) (.pointer (some u)) := by
  have hcl := RdA.cells hx hone
  have hb : BelowP (fun k => k < w.heap.size) w (w.alloc (.cells v.cells el)) := (below_alloc' w _ (Nat.le_refl _) _).toP fun _ h => h
  have hlive : ∀ b o, (S b o ∨ b = w.heap.size) → b < (w.alloc (.cells v.cells el)).heap.size := by
    have hsize : (w.alloc (.cells v.cells el)).heap.size = w.heap.size + 1 := by
      show (w.heap.push _).size = _
      simp
    rintro b o (h | rfl)
    · have := hI.live b o h
      omega
    · omega
  have hkk : Kept w (w.alloc (.cells v.cells el)) S fun b o => S b o ∨ b = w.heap.size := kept_below hI hb fun _ _ h => .inl h
  refine ⟨⟨w.heap.size, 0, none⟩, w.alloc (.cells v.cells el), fun b o => S b o ∨ b = w.heap.size, by simp [newVar, newRow], fun st2 hI2 => hI2.called hb (fun _ _ h => .inl h) (fun b o h => h.imp id fun h => by omega) hlive, ?_⟩
  have hmap := datL_map _ _ hds
  simp only [RdD]
  refine ⟨w.heap.size, 0, rfl, RdC.mk _ _ _ fun j c hc => ⟨.inr rfl, ?_⟩⟩
  rw [hmap] at hcl
  obtain ⟨u, hu, hru⟩ := RdAL.at _ _ hcl j (.d c) (by simp [hc])
  refine ⟨u, ?_, RdD.kept hkk c u (by simpa only [RdA] using hru)⟩
  rw [Nat.zero_add, cell_of_row _ _ _ v.cells el (0, 0) (heap_last _ _)]
  simpa using hu

theorem mkslice_sound (hI : Inv w0 S0 N ρ S st a w) {t T e sz bytes : Nat} (ht : t < N) (hT : P.underlying T = some (.slice e)) (hs : sizeT P e = some sz) (hby : bytesT P e = some bytes) (hsz : 0 < sz) {z : List DV}
    (hz : cZero P e = some z) (hzl : z.length = sz) (hzo : z.all DV.one = true) {kl kc : IntKind} {n : Int} (h0 : 0 ≤ n) (hb : n.toNat * bytes ≤ room) (hn : n.toNat ≤ room) :
    ∃ u w1, (Instr.makeSlice T (.int kl n) (.int kc n)).run P w = .ok u w1 ∧ InvE w0 S0 N ((st.at_ t (.dat e sz (List.replicate n.toNat z))).put t (.aref t sz 0 n.toNat)) (a.put (some t) u) w1 := by
  unfold cZero at hz
  cases hi : P.info? e with
  | none => simp [hi] at hz
  | some it =>
    cases hzz : it.zero with
    | none => simp [hi, hzz] at hz
    | some zv =>
      simp only [hi, hzz] at hz
      have hsize : it.size = sz := by simpa [sizeT, hi] using hs
      have hbytes : it.bytes = bytes := by simpa [bytesT, hi] using hby
      simp only [room] at hb hn
      have hb' : (it.bytes : Int) * n ≤ 281474976710656 := by
        rw [hbytes]
        have h1 : ((n.toNat * bytes : Nat) : Int) ≤ ((1099511627776 : Nat) : Int) := Int.ofNat_le.2 hb
        rw [Int.natCast_mul, Int.toNat_of_nonneg h0, Int.mul_comm] at h1
        omega
      have hrun := run_make (P := P) w T e it zv hT hi hzz kl kc n n h0 (Int.le_refl _) hb' (by omega)
      refine ⟨_, _, hrun, ?_⟩
      rw [hsize]
      have hk := kept_alloc hI (.cells (madeCells zv.cells (n.toNat * sz)) e)
      have hx := hI.alloc (t := t) (ob := .dat e sz (List.replicate n.toNat z)) (cap := n.toNat) (cs := madeCells zv.cells (n.toNat * sz)) (el := e) (fun w1 ρ' hw hρ => by
        subst hw hρ
        refine segOk_dat (blk := w.heap.size) (cap := n.toNat) (cur := madeCells zv.cells (n.toNat * sz)) (by simp) (hI.fresh (Nat.le_refl _)) (heap_last _ _) (size_madeCells _ _) (by simp) (by simp only [maxLen]; omega) (size_not_stable hI) ?_ ?_
        · intro e' he'
          rw [List.mem_replicate] at he'
          obtain ⟨_, rfl⟩ := he'
          exact ⟨hzl, hzo⟩
        · intro i j e' c he' hc
          have hi' : i < n.toNat := by
            have := (List.getElem?_eq_some_iff.1 he').1
            simpa using this
          have he'' : e' = z := by
            rw [List.getElem?_replicate, if_pos hi'] at he'
            exact (Option.some.inj he').symm
          subst he''
          have hj : j < sz := by rw [← hzl]; exact (List.getElem?_eq_some_iff.1 hc).1
          obtain ⟨_, h2⟩ := zeros_flat (S := S) (w' := w.alloc (.cells (madeCells zv.cells (n.toNat * sz)) e)) zv.cells e' sz n.toNat hz hzl hsz
          exact h2 i j hi' hj c hc)
      refine ⟨_, _, hx.put ht ?_⟩
      simp only [RdA, if_true]
      exact ⟨_, _, rfl, fun _ => by simp, fun _ => rfl, Nat.le_refl _, rfl⟩

/-! ### stores -/
/-- an object is changed where it lies -/
theorem Inv.upd (hI : Inv w0 S0 N ρ S st a w) {s : Nat} {o ob : Ob} (hs : st.seg s = some o) {el : TypeId} {cur cur' : Array Value} (hcur : w.heap[(ρ s).1]? = some (.cells cur el (0, 0)))
    (hob : SegOk w0.old (w.setRow (ρ s).1 cur') S ρ s ob) : Inv w0 S0 N ρ S (st.upd s ob) a (w.setRow (ρ s).1 cur') := by
  have hso := (hI.seg s o hs).lt
  have hother : ∀ k, k ≠ (ρ s).1 → (w.setRow (ρ s).1 cur').heap[k]? = w.heap[k]? := fun k hk => setRow_other w _ k _ hk
  have hk : Kept w (w.setRow (ρ s).1 cur') S S := ⟨fun _ _ h => h, fun b p hb u hu => by
    have hbg : b ≠ (ρ s).1 := fun e => hso.2.2 p (e ▸ hb)
    rw [World.cell?] at hu ⊢
    rw [hother b hbg]; exact hu⟩
  refine ⟨hI.size, hI.defers, fun n => RdA.kept hk _ _ (hI.env n), fun n t want v he h => RdA.kept hk _ _ (hI.whens n t want v he h), hI.nots, fun n o' hn => ?_, fun n m o1 o2 hn hm he => ?_, fun b p hb => by simpa using hI.live b p hb, hI.up, hI.new, ?_⟩
  · simp only [St.upd] at hn
    split at hn
    · rename_i he
      subst he
      simp only [Option.some.injEq] at hn
      subst hn
      exact hob
    · rename_i hne
      have h1 := hI.seg n o' hn
      refine SegOk.kept hk h1 (hother _ fun he => hne (hI.apart n s o' o hn hs he)) h1.lt.2.2
  · simp only [St.upd] at hn hm
    have hn' : ∃ x, st.seg n = some x := by
      split at hn
      · rename_i he; subst he; exact ⟨o, hs⟩
      · exact ⟨o1, hn⟩
    have hm' : ∃ x, st.seg m = some x := by
      split at hm
      · rename_i he; subst he; exact ⟨o, hs⟩
      · exact ⟨o2, hm⟩
    obtain ⟨x, hx⟩ := hn'
    obtain ⟨y, hy⟩ := hm'
    exact hI.apart n m x y hx hy he
  · refine hI.below.trans ⟨rfl, rfl, rfl, by simp, fun k hkk => hother k ?_⟩
    exact fun e => hso.1 (e ▸ hkk)

theorem store_sound (hI : Inv w0 S0 N ρ S st a w) {T sz : Nat} (hs : sizeT P T = some sz) {x y : AV} {vx vy : Value} (hx : RdA w S ρ x vx) (hy : RdA w S ρ y vy) {st' : St} (h : aStore st sz x y = some st') :
    ∃ w1, (Instr.storeAt T vx vy).run P w = .ok () w1 ∧ InvE w0 S0 N st' a w1 := by
  unfold aStore at h
  split at h
  · rename_i s sz' i off
    simp only [RdA] at hx
    subst hx
    dsimp only at h
    split at h
    · rename_i hcond
      obtain ⟨hlen, hone⟩ := hcond
      have hcl := RdA.cells hy hone
      have hcle := RdAL.length _ _ hcl
      have hvs : vy.cells.size = sz := by
        simp only [Array.length_toList] at hcle
        omega
      have hv1 : ∀ u ∈ vy.cells.toList, u.oneCell' = true := by
        intro u hu
        obtain ⟨k, hk, rfl⟩ := List.getElem_of_mem hu
        have hk' : k < y.cells.length := by omega
        obtain ⟨u', hu', hr⟩ := RdAL.at _ _ hcl k _ (List.getElem?_eq_getElem hk')
        rw [List.getElem?_eq_getElem hk] at hu'
        simp only [Option.some.injEq] at hu'
        rw [hu']
        exact RdA.one hr (List.all_eq_true.1 hone _ (List.getElem_mem hk'))
      have hrun : ∀ (cur : Array Value) (el : TypeId), w.heap[(ρ s).1]? = some (.cells cur el (0, 0)) → i * sz' + off + sz ≤ cur.size →
          (Instr.storeAt T (.pointer (some ⟨(ρ s).1, i * sz' + off, none⟩)) vy).run P w = .ok () (w.setRow (ρ s).1 (splice cur.toList (i * sz' + off) vy.cells.toList).toArray) := by
        intro cur el hcur hfit
        have := run_storeCells_at P (ρ s).1 (i * sz' + off) el vy.cells.toList 0 cur w hcur (by simp [hvs]; omega) hv1
        simp only [Nat.add_zero] at this
        simp [Instr.storeAt, Instr.sureAddr, storeVar, run_sizeT hs, hvs, this, splice]
      cases hseg : st.seg s with
      | none => simp [hseg] at h
      | some o =>
        have hok := hI.seg s o hseg
        cases o with
        | dat el sz'' es =>
          simp only [hseg] at h
          split at h
          · rename_i heq
            subst heq
            split at h
            · rename_i e he
              split at h
              · rename_i hfit
                obtain ⟨hrows, hro⟩ := hok
                obtain ⟨cur, hcur, hcsz, hcell⟩ := hro.here
                have hi : i < es.length := (List.getElem?_eq_some_iff.1 he).1
                have hel := (hrows e (List.mem_of_getElem? he)).1
                have hbig : i * sz' + off + sz ≤ cur.size := by
                  have h1 := Nat.mul_le_mul_right sz' (show i + 1 ≤ (ρ s).2 by have := hro.fits; omega)
                  rw [Nat.add_mul] at h1
                  omega
                have hnew : ∀ (rows : List (List AV)), rows = (es.map (·.map AV.d)).set i (splice (e.map AV.d) off y.cells) → (∀ e ∈ rows, e.length = sz' ∧ e.all AV.one = true) ∧
                    ∀ (i' j : Nat) e' c, rows[i']? = some e' → e'[j]? = some c → ∃ u, (splice cur.toList (i * sz' + off) vy.cells.toList)[i' * sz' + j]? = some u ∧ RdA w S ρ c u := by
                  intro rows hrw
                  subst hrw
                  have hsl : (splice (e.map AV.d) off y.cells).length = sz' := by
                    simp only [splice, List.length_append, List.length_take, List.length_drop, List.length_map]
                    omega
                  refine ⟨fun e' he' => ?_, fun i' j e' c he' hc => ?_⟩
                  · rcases List.mem_or_eq_of_mem_set he' with he' | rfl
                    · obtain ⟨e2, he2, rfl⟩ := List.mem_map.1 he'
                      have := hrows e2 he2
                      exact ⟨by simpa using this.1, by rw [List.all_map, ← this.2]; congr⟩
                    · refine ⟨hsl, ?_⟩
                      have h2 := (hrows e (List.mem_of_getElem? he)).2
                      rw [List.all_eq_true] at h2 hone ⊢
                      intro c hc
                      simp only [splice, List.mem_append] at hc
                      rcases hc with (hc | hc) | hc
                      · obtain ⟨d, hd, rfl⟩ := List.mem_map.1 (List.mem_of_mem_take hc)
                        exact h2 d hd
                      · exact hone c hc
                      · obtain ⟨d, hd, rfl⟩ := List.mem_map.1 (List.mem_of_mem_drop hc)
                        exact h2 d hd
                  · rw [splice_at _ _ _ (by simp [hvs]; omega)]
                    rw [List.getElem?_set] at he'
                    by_cases hii : i = i'
                    · subst hii
                      rw [if_pos rfl, if_pos (by simpa using hi)] at he'
                      simp only [Option.some.injEq] at he'
                      subst he'
                      rw [splice_at _ _ _ (by simp; omega)] at hc
                      simp only [Array.length_toList, hvs]
                      split at hc
                      · rename_i hjj
                        rw [if_pos (by omega), show i * sz' + j - (i * sz' + off) = j - off by omega]
                        exact RdAL.at _ _ hcl _ c hc
                      · rename_i hjj
                        rw [if_neg (by omega)]
                        simp only [List.getElem?_map, Option.map_eq_some_iff] at hc
                        obtain ⟨d, hd, rfl⟩ := hc
                        obtain ⟨u, hu, hr⟩ := hcell i j hi (by rw [← hel]; exact (List.getElem?_eq_some_iff.1 hd).1)
                        exact ⟨u, by simpa using hu, by simpa only [RdA] using hr e d he hd⟩
                    · rw [if_neg hii] at he'
                      simp only [List.getElem?_map, Option.map_eq_some_iff] at he'
                      obtain ⟨e2, he2, rfl⟩ := he'
                      simp only [List.getElem?_map, Option.map_eq_some_iff] at hc
                      obtain ⟨d, hd, rfl⟩ := hc
                      have hel2 := (hrows e2 (List.mem_of_getElem? he2)).1
                      have hj : j < sz' := by rw [← hel2]; exact (List.getElem?_eq_some_iff.1 hd).1
                      have hi2 : i' < es.length := (List.getElem?_eq_some_iff.1 he2).1
                      simp only [Array.length_toList, hvs]
                      rw [if_neg (by
                        intro hh
                        rcases Nat.lt_or_gt_of_ne hii with h | h
                        · have h5 := Nat.mul_le_mul_right sz' (show i + 1 ≤ i' by omega)
                          rw [Nat.add_mul] at h5
                          omega
                        · have := idx_lt (n := i) (i := i') (j := j) (sz := sz') h hj
                          omega)]
                      obtain ⟨u, hu, hr⟩ := hcell i' j hi2 hj
                      exact ⟨u, by simpa using hu, by simpa only [RdA] using hr e2 d he2 hd⟩
                obtain ⟨hn1, hn2⟩ := hnew _ rfl
                have hseg' : ∀ (w1 : World), w1 = w.setRow (ρ s).1 (splice cur.toList (i * sz' + off) vy.cells.toList).toArray → SegOk w0.old w1 S ρ s (mkOb el sz' ((es.map (·.map AV.d)).set i (splice (e.map AV.d) off y.cells))) := by
                  intro w1 hw1
                  subst hw1
                  have hk : Kept w (w.setRow (ρ s).1 (splice cur.toList (i * sz' + off) vy.cells.toList).toArray) S S := ⟨fun _ _ h => h, fun b p hb u hu => by
                    have hbg : b ≠ (ρ s).1 := fun e => hro.apart p (e ▸ hb)
                    rw [World.cell?] at hu ⊢
                    rw [setRow_other w _ b _ hbg]; exact hu⟩
                  refine segOk_mk (blk := (ρ s).1) (cap := (ρ s).2) (cur := (splice cur.toList (i * sz' + off) vy.cells.toList).toArray) rfl hro.base (setRow_heap w _ cur _ el _ hcur) ?_ (by simpa using hro.fits) hro.len hro.apart hn1 ?_
                  · simp only [splice, List.size_toArray, List.length_append, List.length_take, List.length_drop, Array.length_toList, hvs]
                    omega
                  · intro i' j e' c he' hc
                    obtain ⟨u, hu, hr⟩ := hn2 i' j e' c he' hc
                    exact ⟨u, by simpa using hu, RdA.kept hk c u hr⟩
                refine ⟨_, hrun cur el hcur hbig, ρ, S, ?_⟩
                have hfin := hI.upd hseg hcur (hseg' _ rfl)
                split at h
                · rename_i ds hds
                  simp only [Option.some.injEq] at h
                  subst h
                  have hyc := datL_map _ _ hds
                  have hmk : mkOb el sz' ((es.map (·.map AV.d)).set i (splice (e.map AV.d) off y.cells)) = .dat el sz' (es.set i (splice e off ds)) := by
                    have : (es.map (·.map AV.d)).set i (splice (e.map AV.d) off y.cells) = (es.set i (splice e off ds)).map (·.map AV.d) := by
                      rw [List.map_set, hyc]
                      congr 1
                      simp [splice]
                    rw [this]
                    unfold mkOb
                    rw [datLL_of_map]
                  rw [hmk] at hfin
                  exact hfin
                · rename_i hds
                  simp only [Option.some.injEq] at h
                  subst h
                  have hmk : mkOb el sz' ((es.map (·.map AV.d)).set i (splice (e.map AV.d) off y.cells)) = .mix el sz' ((es.map (·.map AV.d)).set i (splice (e.map AV.d) off y.cells)) := by
                    unfold mkOb
                    rw [datLL_none _ i (splice (e.map AV.d) off y.cells) (by rw [List.getElem?_set, if_pos rfl, if_pos (by simpa using hi)]) ?_]
                    cases hc : datL (splice (e.map AV.d) off y.cells) with
                    | none => rfl
                    | some ds' =>
                      have h9 := datL_map _ _ hc
                      have h10 : ∀ c ∈ y.cells, ∃ d, c = AV.d d := by
                        intro c hcm
                        have : c ∈ splice (e.map AV.d) off y.cells := by simp [splice, hcm]
                        rw [h9] at this
                        obtain ⟨d, _, rfl⟩ := List.mem_map.1 this
                        exact ⟨d, rfl⟩
                      obtain ⟨ds2, hds2⟩ := datL_of_all y.cells h10
                      rw [hds2] at hds
                      cases hds
                  rw [hmk] at hfin
                  exact hfin
              · cases h
            · cases h
          · cases h
        | mix el sz'' es =>
          simp only [hseg] at h
          split at h
          · rename_i heq
            subst heq
            split at h
            · rename_i e he
              split at h
              · rename_i hfit
                simp only [Option.some.injEq] at h
                subst h
                obtain ⟨hrows, hro⟩ := hok
                obtain ⟨cur, hcur, hcsz, hcell⟩ := hro.here
                have hi : i < es.length := (List.getElem?_eq_some_iff.1 he).1
                have hel := (hrows e (List.mem_of_getElem? he)).1
                have hbig : i * sz' + off + sz ≤ cur.size := by
                  have h1 := Nat.mul_le_mul_right sz' (show i + 1 ≤ (ρ s).2 by have := hro.fits; omega)
                  rw [Nat.add_mul] at h1
                  omega
                have hsl : (splice e off y.cells).length = sz' := by
                  simp only [splice, List.length_append, List.length_take, List.length_drop]
                  omega
                have hn1 : ∀ e' ∈ es.set i (splice e off y.cells), e'.length = sz' ∧ e'.all AV.one = true := by
                  intro e' he'
                  rcases List.mem_or_eq_of_mem_set he' with he' | rfl
                  · exact hrows e' he'
                  · refine ⟨hsl, ?_⟩
                    have h2 := (hrows e (List.mem_of_getElem? he)).2
                    rw [List.all_eq_true] at h2 hone ⊢
                    intro c hc
                    simp only [splice, List.mem_append] at hc
                    rcases hc with (hc | hc) | hc
                    · exact h2 c (List.mem_of_mem_take hc)
                    · exact hone c hc
                    · exact h2 c (List.mem_of_mem_drop hc)
                have hn2 : ∀ (i' j : Nat) e' c, (es.set i (splice e off y.cells))[i']? = some e' → e'[j]? = some c → ∃ u, (splice cur.toList (i * sz' + off) vy.cells.toList)[i' * sz' + j]? = some u ∧ RdA w S ρ c u := by
                  intro i' j e' c he' hc
                  rw [splice_at _ _ _ (by simp [hvs]; omega)]
                  rw [List.getElem?_set] at he'
                  by_cases hii : i = i'
                  · subst hii
                    rw [if_pos rfl, if_pos hi] at he'
                    simp only [Option.some.injEq] at he'
                    subst he'
                    rw [splice_at _ _ _ (by omega)] at hc
                    simp only [Array.length_toList, hvs]
                    split at hc
                    · rename_i hjj
                      rw [if_pos (by omega), show i * sz' + j - (i * sz' + off) = j - off by omega]
                      exact RdAL.at _ _ hcl _ c hc
                    · rename_i hjj
                      rw [if_neg (by omega)]
                      obtain ⟨u, hu, hr⟩ := hcell i j hi (by rw [← hel]; exact (List.getElem?_eq_some_iff.1 hc).1)
                      exact ⟨u, by simpa using hu, hr e c he hc⟩
                  · rw [if_neg hii] at he'
                    have hel2 := (hrows e' (List.mem_of_getElem? he')).1
                    have hj : j < sz' := by rw [← hel2]; exact (List.getElem?_eq_some_iff.1 hc).1
                    have hi2 : i' < es.length := (List.getElem?_eq_some_iff.1 he').1
                    simp only [Array.length_toList, hvs]
                    rw [if_neg (by
                      intro hh
                      rcases Nat.lt_or_gt_of_ne hii with h | h
                      · have h5 := Nat.mul_le_mul_right sz' (show i + 1 ≤ i' by omega)
                        rw [Nat.add_mul] at h5
                        omega
                      · have := idx_lt (n := i) (i := i') (j := j) (sz := sz') h hj
                        omega)]
                    obtain ⟨u, hu, hr⟩ := hcell i' j hi2 hj
                    exact ⟨u, by simpa using hu, hr e' c he' hc⟩
                refine ⟨_, hrun cur el hcur hbig, ρ, S, hI.upd hseg hcur ?_⟩
                have hk : Kept w (w.setRow (ρ s).1 (splice cur.toList (i * sz' + off) vy.cells.toList).toArray) S S := ⟨fun _ _ h => h, fun b p hb u hu => by
                  have hbg : b ≠ (ρ s).1 := fun e => hro.apart p (e ▸ hb)
                  rw [World.cell?] at hu ⊢
                  rw [setRow_other w _ b _ hbg]; exact hu⟩
                refine ⟨hn1, hro.base, ⟨_, setRow_heap w _ cur _ el _ hcur, ?_, fun i' j hi' hj => ?_⟩, by simpa using hro.fits, hro.len, hro.apart⟩
                · simp only [splice, List.size_toArray, List.length_append, List.length_take, List.length_drop, Array.length_toList, hvs]
                  omega
                · have hlen2 := (hn1 _ (List.getElem_mem hi')).1
                  obtain ⟨u, hu, hr⟩ := hn2 i' j _ _ (List.getElem?_eq_getElem hi') (List.getElem?_eq_getElem (by omega : j < _))
                  refine ⟨u, by simpa using hu, fun e' c he' hc => ?_⟩
                  rw [List.getElem?_eq_getElem hi'] at he'
                  simp only [Option.some.injEq] at he'
                  subst he'
                  rw [List.getElem?_eq_getElem (by omega)] at hc
                  simp only [Option.some.injEq] at hc
                  subst hc
                  exact RdA.kept hk _ u hr
              · cases h
            · cases h
          · cases h
    · cases h
  · cases h
where
  datLL_of_map (es : List (List DV)) : datLL (es.map (·.map AV.d)) = some es := by
    induction es with
    | nil => rfl
    | cons e es ih =>
      have : datL (e.map AV.d) = some e := by
        induction e with
        | nil => rfl
        | cons d e ih2 => simp [datL, ih2]
      simp [datLL, this, ih]
  datLL_none (rows : List (List AV)) (i : Nat) (e : List AV) (he : rows[i]? = some e) (hn : datL e = none) : datLL rows = none := by
    induction rows generalizing i with
    | nil => simp at he
    | cons r rows ih =>
      cases i with
      | zero =>
        simp only [List.getElem?_cons_zero, Option.some.injEq] at he
        subst he
        simp [datLL, hn]
      | succ i =>
        simp only [List.getElem?_cons_succ] at he
        simp only [datLL, ih i he]
        split <;> first | rfl | simp_all
  datL_of_all (l : List AV) (h : ∀ c ∈ l, ∃ d, c = AV.d d) : ∃ ds, datL l = some ds := by
    induction l with
    | nil => exact ⟨[], rfl⟩
    | cons c l ih =>
      obtain ⟨ds, hds⟩ := ih fun c hc => h c (by simp [hc])
      obtain ⟨d, rfl⟩ := h c (by simp)
      exact ⟨d :: ds, by simp [datL, hds]⟩
end
end Go.Proofs.Ytjejjokdbbedlaa.Vm
