/- slices.Delete of one element of a slice of the call's own: walked through the library's text. No condition. -/
import Derived.Test.YtngghbloijkfoaaInsC
import Derived.Deep.RegionLaw
namespace Go.Proofs.Ytngghbloijkfoaa
open Go Go.Proofs Go.RowKit Go.Lib Vm
set_option linter.unusedVariables false
set_option linter.unusedSimpArgs false
theorem under43 : Try.prog.underlying 33 = some (.slice 38) := by kernel_rfl
theorem info43 : ∃ it, Try.prog.info? 38 = some it ∧ it.size = 7 := by
  cases hq : Try.prog.info? 38 with
  | none =>
    have h : (Try.prog.info? 38).isSome = true := by kernel_rfl
    simp [hq] at h
  | some it =>
    have h : (Try.prog.info? 38).map (fun i => i.size) = some 7 := by kernel_rfl
    rw [hq] at h
    simp only [Option.map_some, Option.some.injEq] at h
    exact ⟨it, rfl, h⟩
theorem zero43 (w : World) : (zeroValue 38).run Try.prog w = .ok (.agg #[.int .i64 0, .int .i64 0, .int .i64 0, .int .i64 0, .int .i64 0, .int .i64 0, .int .i64 0]) w := by kernel_rfl
theorem step_append_runI {P : Program} {ops : Array Oper} {o : Oper} {a : Act} {w : World} {K : Act → World → Prop} {Q : Exit → Act → World → Prop} {E : Prop}
    (hg : o.guard = none) (d x : Operand) (dT sT : TypeId) (hop : o.op = Op.call { callee := Callee.builtin Builtin.append, args := #[d, x], argTypes := #[dT, sT] })
    (v u : Value) (hd : a.eval d = v) (hx : a.eval x = u) {v' : Value} {w' : World} (hr : (Builtin.append_ #[dT, sT] o.type #[v, u]).run P w = .ok v' w') (hK : K (a.put o.dst v') w') :
    if Region.wanted o (yielded ops a.tmps) = true then Oper.wp P o a w K Q else E := by
  have hw : Region.wanted o (yielded ops a.tmps) = true := by simp [Region.wanted, hg]
  rw [if_pos hw]
  unfold Oper.wp
  simp [execOp, hop, resolve, invoke, builtin, hd, hx, hr, Result.andThen]
  exact hK
theorem clear_row {P : Program} (w : World) (t e ty : TypeId) (z : Value) (ht : P.underlying t = some (.slice e)) (hv : ∀ w, (zeroValue e).run P w = .ok z w) (h1 : ∀ v ∈ z.cells.toList, v.oneCell' = true) (b o c : Nat) (cur : Array Value) (el : TypeId)
    (hg : w.heap[b]? = some (.cells cur el (0, 0))) (hf : o + z.cells.size ≤ cur.size) :
    (Builtin.clear_ #[t] ty #[.slice (some ⟨b, o, none⟩) 1 c]).run P w = .ok (.tuple #[]) (w.setRow b (splice cur.toList o z.cells.toList).toArray) := by
  have hzc : (Builtin.zeroCells z.cells 1).toList = z.cells.toList := by
    apply List.ext_getElem?
    intro i
    simp only [Builtin.zeroCells, Nat.one_mul, Array.toList_map, Array.toList_range, List.getElem?_map]
    by_cases hi : i < z.cells.size
    · rw [List.getElem?_range hi]
      simp [Nat.mod_eq_of_lt hi, getElem!_def, Array.getElem?_eq_getElem hi]
    · rw [List.getElem?_eq_none (by simpa using hi), List.getElem?_eq_none (by simpa using hi)]
      rfl
  have hst := run_storeCells_at P b o el z.cells.toList 0 cur w hg (by simpa using hf) h1
  simp [Builtin.clear_, run_underlying ht, hv, hzc, hst, splice]
set_option maxHeartbeats 4000000 in
set_option maxRecDepth 100000 in
theorem del43_walk (g n c i : Nat) (cur : Array Value) (w : World) (hg : w.heap[g]? = some (.cells cur 38 (0, 0))) (hcs : cur.size = c * 7) (hi : i < n) (hroom : n ≤ c) (hc : c ≤ maxLen) (h1c : ∀ (j : Nat) v, j < n * 7 → cur[j]? = some v → v.oneCell' = true) :
    Calls Try.prog 43 #[.slice (some ⟨g, 0, none⟩) n c, .int .i64 i, .int .i64 ((i : Int) + 1)] w fun e w' =>
      ∃ R : List Value, e = .returned (.slice (some ⟨g, 0, none⟩) (n - 1) c) ∧ BelowP (fun k => k < w.heap.size ∧ k ≠ g) w w' ∧ w'.heap[g]? = some (.cells R.toArray 38 (0, 0)) ∧ R.length = c * 7 ∧
      R.take ((n - 1) * 7) = (cur.toList.take (n * 7)).take (i * 7) ++ (cur.toList.take (n * 7)).drop ((i + 1) * 7) := by
  have hc63 : c ≤ 9223372036854775807 := by unfold maxLen at hc; omega
  obtain ⟨it, hit, hits⟩ := info43
  have hcl : cur.toList.length = c * 7 := by rw [Array.length_toList]; exact hcs
  obtain ⟨news, hnews⟩ : ∃ news, news = (cur.toList.take (n * 7)).drop ((i + 1) * 7) := ⟨_, rfl⟩
  have hlen : news.length = (n - (i + 1)) * 7 := by
    rw [hnews, List.length_drop, List.length_take, hcl]
    omega
  obtain ⟨A, hA, hsrc⟩ : ∃ A : Addr, (if c = i + 1 then some (⟨g, 0, none⟩ : Addr) else some ⟨g, (i + 1) * 7, none⟩) = some A ∧ (∀ (t : Nat) u, news[t]? = some u → w.drew.cell? (A.add t) = some u) := by
    by_cases h : c = i + 1
    · refine ⟨⟨g, 0, none⟩, by simp [h], fun t u hu => ?_⟩
      have h0 : news.length = 0 := by rw [hlen]; omega
      rw [List.length_eq_zero_iff.1 h0] at hu
      simp at hu
    · refine ⟨⟨g, (i + 1) * 7, none⟩, by simp [h], fun t u hu => ?_⟩
      rw [hnews, List.getElem?_drop, List.getElem?_take] at hu
      split at hu
      · rw [Addr.add_lit]
        show w.cell? _ = _
        rw [World.cell?, hg]
        simpa using hu
      · cases hu
  have hone : ∀ u ∈ news, u.oneCell' = true := fun u hu => by
    obtain ⟨t, ht⟩ := List.mem_iff_getElem?.1 hu
    rw [hnews, List.getElem?_drop, List.getElem?_take] at ht
    split at ht
    · rename_i hlt
      exact h1c _ u hlt (by simpa using ht)
    · cases ht
  obtain ⟨R1, hR1⟩ : ∃ R1, R1 = cur.toList.take (i * 7) ++ news ++ cur.toList.drop (i * 7 + news.length) := ⟨_, rfl⟩
  have hR1l : R1.length = c * 7 := by
    rw [hR1]
    simp only [List.length_append, List.length_take, List.length_drop, hcl, hlen]
    omega
  obtain ⟨W1, hW1⟩ : ∃ W1, W1 = w.drew.setRow g R1.toArray := ⟨_, rfl⟩
  have hap : ∀ ty, (Builtin.append_ #[33, 33] ty #[.slice (some ⟨g, 0, none⟩) i c, .slice (some A) (n - (i + 1)) (c - (i + 1))]).run Try.prog w.drew = .ok (.slice (some ⟨g, 0, none⟩) (i + (n - (i + 1))) c) W1 := fun ty => by
    have := run_append_room (P := Try.prog) w.drew 33 ty 38 it under43 hit g i c cur hg A (n - (i + 1)) (c - (i + 1)) news (by rw [hits]; exact hlen) hsrc hone (by omega) (by rw [hits, hlen, hcs]; omega)
    rw [hits, ← hR1, ← hW1] at this
    exact this
  have hW1g : W1.heap[g]? = some (.cells R1.toArray 38 (0, 0)) := by rw [hW1]; exact setRow_heap w.drew g cur _ 38 _ hg
  have hW1o : ∀ k, k ≠ g → W1.heap[k]? = w.heap[k]? := fun k hk => by rw [hW1]; exact setRow_other w.drew g k _ hk
  have hW1s : W1.heap.size = w.heap.size := by rw [hW1]; simp [World.setRow]
  have hW1b : W1.os = w.os ∧ W1.tape = w.tape ∧ W1.output = w.output := by rw [hW1]; exact ⟨rfl, rfl, rfl⟩
  have hn1 : i + (n - (i + 1)) = n - 1 := by omega
  rw [hn1] at hap
  obtain ⟨R2, hR2⟩ : ∃ R2, R2 = splice R1 ((n - 1) * 7) [Value.int .i64 0, .int .i64 0, .int .i64 0, .int .i64 0, .int .i64 0, .int .i64 0, .int .i64 0] := ⟨_, rfl⟩
  have hcl2 : ∀ ty cc, (Builtin.clear_ #[33] ty #[.slice (some ⟨g, (n - 1) * 7, none⟩) 1 cc]).run Try.prog W1 = .ok (.tuple #[]) (W1.setRow g R2.toArray) := fun ty cc => by
    have := clear_row (P := Try.prog) W1 33 38 ty _ under43 zero43 (by decide) g ((n - 1) * 7) cc R1.toArray 38 hW1g (by simp only [List.size_toArray, hR1l, Value.cells]; simp; omega)
    rw [this, hR2]
    rfl
  have hR2l : R2.length = c * 7 := by
    rw [hR2]
    simp only [splice, List.length_append, List.length_take, List.length_drop, hR1l, List.length_cons, List.length_nil]
    omega
  have hR2t : R2.take ((n - 1) * 7) = (cur.toList.take (n * 7)).take (i * 7) ++ (cur.toList.take (n * 7)).drop ((i + 1) * 7) := by
    rw [← hnews, hR2]
    have h2 : (cur.toList.take (n * 7)).take (i * 7) = cur.toList.take (i * 7) := by rw [List.take_take, Nat.min_eq_left (by omega)]
    have h3 : R1.take ((n - 1) * 7) = cur.toList.take (i * 7) ++ news := by
      rw [hR1]
      exact List.take_left' (by rw [List.length_append, List.length_take, hcl, hlen]; omega)
    simp only [splice]
    rw [List.append_assoc, List.take_append_of_le_length (by rw [List.length_take]; omega), List.take_take, Nat.min_self, h3, h2]
  have hic : i ≤ c := by omega
  have hjc : i + 1 ≤ c := by omega
  have mixed : Try.prog.follows .mixedOrders = true := by kernel_rfl
  clear hR2 hW1 hR1 hnews hsrc hone
  go_enter Try.func43, Try.ntmps43
  have hin : i ≤ n := by omega
  have hb1 : (0 : Int) ≤ (i : Int) + 1 := by omega
  have hin1 : (i : Int) + 1 ≤ (n : Int) := by omega
  have hnn : n - (n - 1) = 1 := by omega
  go_wp2_with fail
  go_region_law (refine step_append_runI rfl _ _ 33 33 rfl _ _ (by simp [Act.eval, Act.put]) (by simp [Act.eval, Act.put]) (hap _) ?_)
  go_wp2
  go_ret
  refine ⟨R2, rfl, ⟨hW1b.1, hW1b.2.1, hW1b.2.2, ?_, fun k hk => ?_⟩, ?_, hR2l, hR2t⟩
  · rw [← hW1s]
    simp [World.setRow]
  · exact (setRow_other W1 g k _ hk.2).trans (hW1o k hk.2)
  · exact setRow_heap W1 g _ _ _ _ hW1g
theorem del43 {es : List (List DV)} {i : Nat} {k : Int} (hi : i < es.length) (hk : k = (i : Int) + 1) :
    EntX Try.prog 43 [.mv 38 7 es, .int .i64 i, .int .i64 k] (.sl (.own 38) 7 (es.take i ++ es.drop (i + 1))) := by
  subst hk
  intro w vs S0 o ha hS
  refine .inl ⟨⟨Try.f43, by kernel_rfl, by kernel_rfl, by kernel_rfl⟩, ?_⟩
  simp only [ArgsAt] at ha
  obtain ⟨v0, vs', g, rfl, ⟨c, rfl, hes, hro⟩, hl, rfl⟩ := ha
  simp only [RdL, RdD] at hl
  obtain ⟨_, vs2, rfl, rfl, _, vs3, rfl, rfl, rfl⟩ := hl
  obtain ⟨cur, hcur, hcsz, hcell⟩ := hro.here
  obtain ⟨us, hflat, hus, hone⟩ := flat_of_cells (w := w) (S := S0) (b := g) (o := 0) (sz := 7) (es := es) (fun e he => (hes e he).1) (fun i j hi hj => by
    obtain ⟨u, hu, hr⟩ := hcell i j hi hj
    exact ⟨u, by rw [cell_of_row w _ _ cur 38 (0, 0) hcur, Nat.zero_add]; exact hu, hr⟩)
  have hone' := hone fun e he => (hes e he).2
  have hcu : cur.toList.take (es.length * 7) = us := by
    apply List.ext_getElem?
    intro p
    rw [List.getElem?_take]
    split
    · rename_i hp
      have hp2 : p < us.length := by rw [hflat.1]; exact hp
      have := hus p _ (List.getElem?_eq_getElem hp2)
      rw [add_mk, Nat.zero_add, cell_of_row w _ _ cur 38 (0, 0) hcur] at this
      rw [List.getElem?_eq_getElem hp2, ← this]
      simp
    · rename_i hp
      rw [List.getElem?_eq_none (by rw [hflat.1]; omega)]
  have hold : ∀ b p, S0 b p → (Base.but w g).old b := fun b p hb => ⟨hS b p hb, fun he => hro.apart p (he ▸ hb)⟩
  have hrt : ∀ e ∈ es, e.length = 7 := fun e he => (hes e he).1
  have hn' : (es.take i ++ es.drop (i + 1)).length = es.length - 1 := by
    rw [List.length_append, List.length_take, List.length_drop]
    omega
  refine (del43_walk g es.length c i cur w hcur hcsz hi hro.fits hro.len (fun j v hj hc => ?_)).mono ?_
  · refine hone' v ?_
    rw [← hcu]
    refine List.mem_of_getElem? (i := j) ?_
    rw [List.getElem?_take, if_pos hj]
    simpa using hc
  · rintro e w' ⟨R, rfl, hb, hrow, hRl, hRt⟩
    refine ⟨_, rfl, S0, ?_⟩
    rw [hcu] at hRt
    have hp := post_row (o := Base.but w g) (es := es.take i ++ es.drop (i + 1)) (us := us.take (i * 7) ++ us.drop ((i + 1) * 7)) (sz := 7) (G := c) rfl hb hold hS (fun h => h.2 rfl) hb.size hrow hRl (by rw [hn']; have := hro.fits; omega) hro.len (by rw [hn']; exact hRt)
      (fun e he => by
        rcases List.mem_append.1 he with he | he
        · exact hes e (List.mem_of_mem_take he)
        · exact hes e (List.mem_of_mem_drop he))
      ((flat_take hflat hrt i).append (flat_drop hflat (i + 1)) (fun e he => hrt e (List.mem_of_mem_take he)))
    rw [hn'] at hp
    exact hp
end Go.Proofs.Ytngghbloijkfoaa
