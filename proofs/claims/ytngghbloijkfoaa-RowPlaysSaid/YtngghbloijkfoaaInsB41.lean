/- slices.Insert of one element into a slice of the call's own that has no room: a new row: walked through the library's text. No condition. -/
import Derived.Test.YtngghbloijkfoaaInsA41
namespace Go.Proofs.Ytngghbloijkfoaa
open Go Go.Proofs Go.RowKit Go.Lib Vm
set_option linter.unusedVariables false
set_option linter.unusedSimpArgs false
set_option maxHeartbeats 4000000 in
set_option maxRecDepth 100000 in
theorem ins41_grow (g n c i vb vo vc : Nat) (us vs : List Value) (w : World) (hul : us.length = n * 7) (hus : ∀ (j : Nat) v, us[j]? = some v → w.cell? ⟨g, j, none⟩ = some v) (h1c : ∀ v ∈ us, v.oneCell' = true) (hi : i < n) (hnc : n ≤ c) (hroom : c < n + 1) (hbig : (n + 1) * 56 ≤ 140737488355328)
    (hvl : vs.length = 7) (hvs : ∀ (j : Nat) v, vs[j]? = some v → w.cell? ⟨vb, vo + j, none⟩ = some v) (h1v : ∀ v ∈ vs, v.oneCell' = true) :
    Calls Try.prog 41 #[.slice (some ⟨g, 0, none⟩) n c, .int .i64 i, .slice (some ⟨vb, vo, none⟩) 1 vc] w fun e w' =>
      ∃ (G : Nat) (row : List Value), e = .returned (.slice (some ⟨w.heap.size, 0, none⟩) (n + 1) G) ∧ n + 1 ≤ G ∧ G ≤ maxLen ∧ BelowP (fun k => k < w.heap.size) w w' ∧ w'.heap.size = w.heap.size + 1 ∧ row.length = G * 7 ∧
      w'.heap[w.heap.size]? = some (.cells row.toArray 38 (0, 0)) ∧ row.take ((n + 1) * 7) = us.take (i * 7) ++ vs ++ us.drop (i * 7) := by
  obtain ⟨it, hit, hz0, hzs, hzb⟩ : ∃ it, Try.prog.info? 38 = some it ∧ it.zero = some (Value.agg #[.int .i64 0, .int .i64 0, .int .i64 0, .int .i64 0, .int .i64 0, .int .i64 0, .int .i64 0]) ∧ it.size = 7 ∧ it.bytes = 56 := by
    cases hq : Try.prog.info? 38 with
    | none =>
      have h : (Try.prog.info? 38).isSome = true := by kernel_rfl
      simp [hq] at h
    | some it =>
      have h : (Try.prog.info? 38).map (fun i => (i.zero, i.size, i.bytes)) = some (some (Value.agg #[.int .i64 0, .int .i64 0, .int .i64 0, .int .i64 0, .int .i64 0, .int .i64 0, .int .i64 0]), 7, 56) := by kernel_rfl
      rw [hq] at h
      simp only [Option.map_some, Option.some.injEq, Prod.mk.injEq] at h
      exact ⟨it, rfl, h.1, h.2.1, h.2.2⟩
  have hmax : n + 1 ≤ maxLen := by unfold maxLen; omega
  have hz2 : ¬ ((i : Int) = (n : Int)) := by omega
  have hz3 : (c : Int) < (n : Int) + (1 : Int) := by omega
  have hg1 : g < w.heap.size := by
    have hx := hus 0 _ (List.getElem?_eq_getElem (by omega))
    unfold World.cell? at hx
    split at hx
    · rename_i hh
      exact (Array.getElem?_eq_some_iff.1 hh).1
    · cases hx
  have hv1 : vb < w.heap.size := by
    have hx := hvs 0 _ (List.getElem?_eq_getElem (by omega))
    unfold World.cell? at hx
    split at hx
    · rename_i hh
      exact (Array.getElem?_eq_some_iff.1 hh).1
    · cases hx
  have hkk : (n : Int) + (1 : Int) - (i : Int) = ((n + 1 - i : Nat) : Int) := by omega
  have hik : i + (n + 1 - i) = n + 1 := by omega
  have hold : (Builtin.firstCells it.size i (.slice (some ⟨g, 0, none⟩) i c)).run Try.prog w.drew = .ok (us.take (i * 7)).toArray w.drew := by
    rw [hzs]
    exact run_firstCells_some w.drew 7 i ⟨g, 0, none⟩ i c (us.take (i * 7)) (by rw [List.length_take]; omega) (fun j v hj => by
      rw [Addr.add_lit]
      rw [List.getElem?_take] at hj
      split at hj
      · simpa using hus j v hj
      · cases hj)
  have hrz : ∀ ty, (Builtin.append_ #[33, 3] ty #[.slice (some ⟨g, 0, none⟩) i c, .int .i64 ((n : Int) + (1 : Int) - (i : Int))]).run Try.prog w =
      .ok (.slice (some ⟨w.heap.size, 0, none⟩) (n + 1) (grownCap w (n + 1) c 38)) (w.drew.alloc (.cells ((us.take (i * 7)).toArray ++ Builtin.zeroCells (Value.cells (Value.agg #[.int .i64 0, .int .i64 0, .int .i64 0, .int .i64 0, .int .i64 0, .int .i64 0, .int .i64 0])) (n + 1 - i) ++ Builtin.zeroCells (Value.cells (Value.agg #[.int .i64 0, .int .i64 0, .int .i64 0, .int .i64 0, .int .i64 0, .int .i64 0, .int .i64 0])) (grownCap w (n + 1) c 38 - (n + 1))) 38)) := fun ty => by
    have h := Lib.run_append_grow_zeros (P := Try.prog) w 33 3 ty 38 it _ .i64 .i64 under41 (by kernel_rfl) hit hz0 (some ⟨g, 0, none⟩) i c (us.take (i * 7)) hold (n + 1 - i) (by omega) (by omega) (by omega) (by omega) (by rw [hzb]; omega) (by rw [hzb, hik]; exact growslice_fits hroom hbig)
    rw [hik] at h
    rw [hkk]
    exact h
  obtain ⟨G, hG⟩ : ∃ G, G = grownCap w (n + 1) c 38 := ⟨_, rfl⟩
  have hGn : n + 1 ≤ G := by rw [hG]; exact grownCap_ge w _ _ _
  have hGm : G ≤ maxLen := by rw [hG]; exact grownCap_le_maxLen w (n + 1) c 38 hmax
  obtain ⟨ROW, hROW⟩ : ∃ ROW : Array Value, ROW = (us.take (i * 7)).toArray ++ Builtin.zeroCells (Value.cells (Value.agg #[.int .i64 0, .int .i64 0, .int .i64 0, .int .i64 0, .int .i64 0, .int .i64 0, .int .i64 0])) (n + 1 - i) ++ Builtin.zeroCells (Value.cells (Value.agg #[.int .i64 0, .int .i64 0, .int .i64 0, .int .i64 0, .int .i64 0, .int .i64 0, .int .i64 0])) (G - (n + 1)) := ⟨_, rfl⟩
  rw [← hG] at hrz
  rw [← hROW] at hrz
  have hzl : (Value.cells (Value.agg #[.int .i64 0, .int .i64 0, .int .i64 0, .int .i64 0, .int .i64 0, .int .i64 0, .int .i64 0])).size = 7 := by rfl
  have hRl : ROW.size = G * 7 := by
    rw [hROW]
    simp only [Array.size_append, size_zeroCells, hzl, List.size_toArray, List.length_take, hul]
    omega
  have hRt : ROW.toList.take (i * 7) = us.take (i * 7) := by
    rw [hROW]
    simp only [Array.toList_append, List.append_assoc]
    exact List.take_left' (by rw [List.length_take]; omega)
  obtain ⟨N, hN⟩ : ∃ N, N = w.heap.size := ⟨_, rfl⟩
  obtain ⟨W1, hW1⟩ : ∃ W1, W1 = (w.alloc (.cells ROW 38)).drew := ⟨_, rfl⟩
  have hW1N : W1.heap[N]? = some (.cells ROW 38 (0, 0)) := by
    rw [hW1, hN]
    show (w.heap.push _)[w.heap.size]? = _
    simp
  have hW1o : ∀ k, k < N → W1.heap[k]? = w.heap[k]? := fun k hk => by
    rw [hW1]
    show (w.heap.push _)[k]? = _
    rw [Array.getElem?_push]
    rw [if_neg (by omega)]
  have hW1s : W1.heap.size = N + 1 := by
    rw [hW1, hN]
    show (w.heap.push _).size = _
    simp
  rw [← hN] at hg1 hv1 hrz ⊢
  have hA : ∀ ty dc, (Builtin.copy_ #[33, 33] ty #[.slice (some ⟨N, i * 7, none⟩) (n + 1 - i) dc, .slice (some ⟨vb, vo, none⟩) 1 vc]).run Try.prog W1 = .ok (goInt ((1 : Nat) : Int)) (W1.setRow N (splice ROW.toList (i * 7) vs).toArray) := fun ty dc => by
    have := copy_row_sz (P := Try.prog) W1 33 33 ty 38 (sz := 7) N (i * 7) (n + 1 - i) dc ⟨vb, vo, none⟩ 1 vc ROW 38 vs under41 size41 hW1N
      (by rw [show Nat.min 1 (n + 1 - i) = 1 by simp only [Nat.min_def]; split <;> omega]; omega)
      (fun j v hj => by rw [Addr.add_lit, World.cell?, hW1o vb hv1]; exact hvs j v hj)
      (by rw [hRl, hvl]; omega) h1v
    rw [show Nat.min 1 (n + 1 - i) = 1 by simp only [Nat.min_def]; split <;> omega] at this
    exact this
  obtain ⟨R1, hR1⟩ : ∃ R1, R1 = splice ROW.toList (i * 7) vs := ⟨_, rfl⟩
  rw [← hR1] at hA
  have hRLl : ROW.toList.length = G * 7 := by rw [Array.length_toList]; exact hRl
  have hR1l : R1.length = G * 7 := by
    rw [hR1]
    simp only [splice, List.length_append, List.length_take, List.length_drop, hRLl, hvl]
    omega
  obtain ⟨W2, hW2⟩ : ∃ W2, W2 = (W1.setRow N R1.toArray).drew := ⟨_, rfl⟩
  have hW2N : W2.heap[N]? = some (.cells R1.toArray 38 (0, 0)) := by
    rw [hW2]
    exact setRow_heap W1 N ROW _ 38 _ hW1N
  have hW2o : ∀ k, k < N → W2.heap[k]? = w.heap[k]? := fun k hk => by
    rw [hW2]
    exact (setRow_other W1 N k _ (by omega)).trans (hW1o k hk)
  have hdl : (us.drop (i * 7)).length = (n - i) * 7 := by rw [List.length_drop, hul]; omega
  have hB : ∀ ty dc sc, (Builtin.copy_ #[33, 33] ty #[.slice (some ⟨N, (i + 1) * 7, none⟩) (n - i) dc, .slice (some ⟨g, i * 7, none⟩) (n - i) sc]).run Try.prog W2 = .ok (goInt ((n - i : Nat) : Int)) (W2.setRow N (splice R1 ((i + 1) * 7) (us.drop (i * 7))).toArray) := fun ty dc sc => by
    have := copy_row_sz (P := Try.prog) W2 33 33 ty 38 (sz := 7) N ((i + 1) * 7) (n - i) dc ⟨g, i * 7, none⟩ (n - i) sc R1.toArray 38 (us.drop (i * 7)) under41 size41 hW2N
      (by rw [show Nat.min (n - i) (n - i) = n - i by simp [Nat.min_def]]; omega)
      (fun j v hj => by
        rw [Addr.add_lit, World.cell?, hW2o g hg1]
        rw [List.getElem?_drop] at hj
        have := hus _ v hj
        simp only [World.cell?] at this
        simpa using this)
      (by simp only [List.size_toArray, hR1l, hdl]; omega) (fun v hv => h1c v (List.mem_of_mem_drop hv))
    rw [show Nat.min (n - i) (n - i) = n - i by simp [Nat.min_def]] at this
    simpa only [List.toList_toArray, Nat.mul_one] using this
  have hRt0 : ROW.toList.take (i * 7) = us.take (i * 7) := hRt
  obtain ⟨R2, hR2⟩ : ∃ R2, R2 = splice R1 ((i + 1) * 7) (us.drop (i * 7)) := ⟨_, rfl⟩
  have hdl2 : (us.drop (i * 7)).length = (n - i) * 7 := by rw [List.length_drop, hul]; omega
  have hR2l : R2.length = G * 7 := by
    rw [hR2]
    simp only [splice, List.length_append, List.length_take, List.length_drop, hR1l, hul]
    omega
  have hR2t : R2.take ((n + 1) * 7) = us.take (i * 7) ++ vs ++ us.drop (i * 7) := by
    have hl1 : (us.take (i * 7)).length = i * 7 := by rw [List.length_take, hul]; omega
    have h1 : R1.take ((i + 1) * 7) = us.take (i * 7) ++ vs := by
      rw [hR1]
      simp only [splice, List.append_assoc]
      rw [show ROW.toList.take (i * 7) = us.take (i * 7) from by simpa using hRt0]
      have e2 : ∀ R : List Value, us.take (i * 7) ++ (vs ++ R) = (us.take (i * 7) ++ vs) ++ R := fun R => by simp only [List.append_assoc]
      rw [e2]
      exact List.take_left' (by rw [List.length_append, hl1, hvl]; omega)
    rw [hR2]
    simp only [splice, List.append_assoc]
    rw [show R1.take ((i + 1) * 7) = us.take (i * 7) ++ vs from by simpa using h1]
    rw [show us.drop (i * 7) = us.drop (i * 7) by simp]
    have e2 : ∀ R : List Value, us.take (i * 7) ++ vs ++ (us.drop (i * 7) ++ R) = (us.take (i * 7) ++ (vs ++ us.drop (i * 7))) ++ R := fun R => by simp only [List.append_assoc]
    rw [e2]
    exact List.take_left' (by rw [List.length_append, List.length_append, hl1, hvl, hdl]; omega)
  rw [← hR2] at hB
  subst hW2 hW1 hN
  have hw1 : IntKind.i64.wrap ((i : Int) + (1 : Int)) = (i : Int) + (1 : Int) := by rw [IntKind.wrap_i64]; omega
  have hb1 : (0 : Int) ≤ (i : Int) + (1 : Int) := by omega
  have hin : i ≤ n := by omega
  have htn : ((i : Int) + (1 : Int)).toNat = i + 1 := by omega
  have hb3 : (i : Int) ≤ (n : Int) := by omega
  have hGi : ¬ (G = i) := by omega
  have hGim : ¬ (G = i + 1) := by omega
  have hci : ¬ (c = i) := by omega
  have hG63 : G ≤ 9223372036854775807 := by unfold maxLen at hGm; omega
  have mixed : Try.prog.follows .mixedOrders = true := by kernel_rfl
  clear hkk hik hold hG hROW hR1 hR2 hRt hRt0
  go_enter Try.func41, Try.ntmps41
  go_wp2_with (first
    | (at_builtin; refine Lib.wpList_append_run _ rfl _ _ _ _ rfl _ _ rfl rfl _ _ (hrz _) ?_)
    | (at_builtin; refine wpList_copy_runI _ rfl _ _ 33 33 rfl _ _ rfl rfl (hA _ _) ?_))
  go_region_law (refine step_copy_runI rfl _ _ 33 33 rfl _ _ (by simp [Act.eval, Act.put]) (by simp [Act.eval, Act.put]) (hB _ _ _) ?_)
  go_wp2
  go_ret
  refine ⟨G, R2, rfl, hGn, hGm, ⟨rfl, rfl, rfl, ?_, fun k hk => ?_⟩, ?_, hR2l, ?_, hR2t⟩
  · simp [World.setRow]
  · exact (setRow_other _ _ k _ (Nat.ne_of_lt hk)).trans (hW2o k hk)
  · simp [World.setRow]
  · exact setRow_heap _ _ _ _ _ _ hW2N
end Go.Proofs.Ytngghbloijkfoaa
