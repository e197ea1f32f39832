/- slices.Insert of one element into a slice of the call's own: walked through the library's text. No condition. -/
import Derived.Test.YtngghbloijkfoaaInsLib
namespace Go.Proofs.Ytngghbloijkfoaa
open Go Go.Proofs Go.RowKit Go.Lib Vm
set_option linter.unusedVariables false
set_option linter.unusedSimpArgs false
theorem under36 : Try.prog.underlying 22 = some (.slice 2) := by kernel_rfl
theorem size36 : (Try.prog.info? 2).map (·.size) = some 1 := by kernel_rfl
set_option maxHeartbeats 4000000 in
set_option maxRecDepth 100000 in
theorem ins36_shift (g n c i vb vo vc : Nat) (cur : Array Value) (vs : List Value) (w : World) (hg : w.heap[g]? = some (.cells cur 2 (0, 0))) (hcs : cur.size = c * 1) (hi : i < n) (hroom : n + 1 ≤ c) (hc : c ≤ maxLen) (hvb : vb ≠ g)
    (hvl : vs.length = 1) (hvs : ∀ j v, vs[j]? = some v → w.cell? ⟨vb, vo + j, none⟩ = some v) (h1v : ∀ v ∈ vs, v.oneCell' = true) (h1c : ∀ (j : Nat) v, j < n * 1 → cur[j]? = some v → v.oneCell' = true) :
    Calls Try.prog 36 #[.slice (some ⟨g, 0, none⟩) n c, .int .i64 i, .slice (some ⟨vb, vo, none⟩) 1 vc] w fun e w' =>
      e = .returned (.slice (some ⟨g, 0, none⟩) (n + 1) c) ∧ BelowP (fun k => k < w.heap.size ∧ k ≠ g) w w' ∧
      w'.heap[g]? = some (.cells (splice (splice cur.toList (i + 1) ((cur.toList.drop (i)).take (n - i))) (i) vs).toArray 2 (0, 0)) := by
  have hc63 : c ≤ 9223372036854775807 := by unfold maxLen at hc; omega
  have hz2 : ¬ ((i : Int) = (n : Int)) := by omega
  have hsh : ∀ W : World, W.heap = w.heap → W.cell? ⟨vb, vo, none⟩ = some (vs.headD undef) := fun W hW => by
    rw [show W.cell? ⟨vb, vo, none⟩ = w.cell? ⟨vb, vo + 0, none⟩ by simp only [World.cell?, hW, Nat.add_zero]]
    exact hvs 0 _ (by cases vs with | nil => simp at hvl | cons a l => rfl)
  have hov : ∀ (W : World) lb cb o, W.heap = w.heap → (callFunc 50 #[.slice (some ⟨vb, vo, none⟩) 1 vc, .slice (some ⟨g, o, none⟩) lb cb]).run Try.prog W = .ok (.value (.bool false)) W := fun W lb cb o hW => by
    rw [run_callFunc_extern (f := 50) (fn := Try.f50) (e := Extern.SlicesOverlaps.overlaps #[22, 22] #[4]) (by kernel_rfl) (by kernel_rfl) (by kernel_rfl) (by kernel_rfl) (by kernel_rfl),
      overlaps_own W 22 4 2 under36 1 (fun _ => by kernel_rfl) ⟨vb, vo, none⟩ ⟨g, o, none⟩ 1 vc lb cb hvb (hsh W hW) (by rw [hW]; exact hg) (by omega)]
    rfl
  have hw1 : IntKind.i64.wrap ((i : Int) + (1 : Int)) = (i : Int) + (1 : Int) := by rw [IntKind.wrap_i64]; omega
  have hb1 : (0 : Int) ≤ (i : Int) + (1 : Int) := by omega
  have hin : i ≤ n := by omega
  have htn : ((i : Int) + (1 : Int)).toNat = i + 1 := by omega
  have hb2 : ¬ (c = i + 1) := by omega
  have hb3 : (i : Int) ≤ (n : Int) + (1 : Int) := by omega
  have hb4 : ¬ (c = i) := by omega
  have hcur1 : cur.toList.length = c * 1 := by simpa using hcs
  have hcp0 : ∀ (W : World), W.heap = w.heap → ∀ ty dc sc, (Builtin.copy_ #[22, 22] ty #[.slice (some ⟨g, i + 1, none⟩) (n - i) dc, .slice (some ⟨g, i, none⟩) (n + 1 - i) sc]).run Try.prog W = .ok (goInt ((n - i : Nat) : Int)) (W.setRow g (splice cur.toList (i + 1) ((cur.toList.drop (i)).take (n - i))).toArray) := fun W hW ty dc sc => by
    have := copy_row_sz (P := Try.prog) W 22 22 ty 2 (sz := 1) g (i + 1) (n - i) dc ⟨g, i, none⟩ (n + 1 - i) sc cur 2 ((cur.toList.drop (i)).take (n - i)) under36 size36 (by rw [hW]; exact hg)
      (by rw [show Nat.min (n + 1 - i) (n - i) = n - i by simp only [Nat.min_def]; split <;> omega]; simp only [List.length_take, List.length_drop, hcur1]; omega)
      (fun j v hj => by
        rw [Addr.add_lit, World.cell?, hW, hg]
        rw [List.getElem?_take] at hj
        split at hj
        · rw [List.getElem?_drop] at hj
          simpa using hj
        · cases hj)
      (by simp only [List.length_take, List.length_drop, hcur1]; omega)
      (fun v hv => by
        obtain ⟨j, hj⟩ := List.mem_iff_getElem?.1 hv
        rw [List.getElem?_take] at hj
        split at hj
        · rw [List.getElem?_drop] at hj
          exact h1c (i + j) v (by omega) (by simpa using hj)
        · cases hj)
    rw [show Nat.min (n + 1 - i) (n - i) = n - i by simp only [Nat.min_def]; split <;> omega] at this
    exact this
  have hcp1 : ∀ ty dc sc, (Builtin.copy_ #[22, 22] ty #[.slice (some ⟨g, i + 1, none⟩) (n - i) dc, .slice (some ⟨g, i, none⟩) (n + 1 - i) sc]).run Try.prog w.drew = .ok (goInt ((n - i : Nat) : Int)) (w.drew.setRow g (splice cur.toList (i + 1) ((cur.toList.drop (i)).take (n - i))).toArray) := fun ty dc sc => hcp0 w.drew rfl ty dc sc
  have hs1 : (splice cur.toList (i + 1) ((cur.toList.drop (i)).take (n - i))).length = c * 1 := by
    simp only [splice, List.length_append, List.length_take, List.length_drop, hcur1]
    omega
  have hcp2 : ∀ (W : World), W.heap[g]? = some (.cells (splice cur.toList (i + 1) ((cur.toList.drop (i)).take (n - i))).toArray 2 (0, 0)) → (∀ k, k ≠ g → W.heap[k]? = w.heap[k]?) → ∀ ty dc,
      (Builtin.copy_ #[22, 22] ty #[.slice (some ⟨g, i, none⟩) (n + 1 - i) dc, .slice (some ⟨vb, vo, none⟩) 1 vc]).run Try.prog W = .ok (goInt ((1 : Nat) : Int)) (W.setRow g (splice (splice cur.toList (i + 1) ((cur.toList.drop (i)).take (n - i))) (i) vs).toArray) := fun W hWg hW ty dc => by
    have := copy_row_sz (P := Try.prog) W 22 22 ty 2 (sz := 1) g (i) (n + 1 - i) dc ⟨vb, vo, none⟩ 1 vc _ 2 vs under36 size36 hWg
      (by rw [show Nat.min 1 (n + 1 - i) = 1 by simp only [Nat.min_def]; split <;> omega]; omega)
      (fun j v hj => by rw [Addr.add_lit, World.cell?, hW vb hvb]; exact hvs j v hj)
      (by simp only [List.size_toArray, hs1, hvl]; omega) h1v
    rw [show Nat.min 1 (n + 1 - i) = 1 by simp only [Nat.min_def]; split <;> omega] at this
    simpa only [List.toList_toArray] using this
  have hcp3 : ∀ ty dc,
      (Builtin.copy_ #[22, 22] ty #[.slice (some ⟨g, i, none⟩) (n + 1 - i) dc, .slice (some ⟨vb, vo, none⟩) 1 vc]).run Try.prog (w.drew.setRow g (splice cur.toList (i + 1) ((cur.toList.drop (i)).take (n - i))).toArray) = .ok (goInt ((1 : Nat) : Int)) (((w.drew.setRow g (splice cur.toList (i + 1) ((cur.toList.drop (i)).take (n - i))).toArray)).setRow g (splice (splice cur.toList (i + 1) ((cur.toList.drop (i)).take (n - i))) (i) vs).toArray) := fun ty dc => hcp2 _ (setRow_heap w.drew g cur _ 2 _ hg) (fun k hk => setRow_other w.drew g k _ hk) ty dc
  have mixed : Try.prog.follows .mixedOrders = true := by kernel_rfl
  go_enter Try.func36, Try.ntmps36
  go_wp2_with (simp only [hov _ _ _ _ rfl])
  go_region_law (refine step_copy_runI rfl _ _ 22 22 rfl _ _ (by simp [Act.eval, Act.put]) (by simp [Act.eval, Act.put]) (hcp1 _ _ _) ?_)
  go_wp2_with (at_builtin; refine wpList_copy_runI _ rfl _ _ 22 22 rfl _ _ rfl rfl (hcp3 _ _) ?_)
  go_ret
  refine ⟨rfl, ⟨rfl, rfl, rfl, ?_, fun k hk => ?_⟩, ?_⟩
  · simp [World.setRow]
  · exact (setRow_other _ g k _ hk.2).trans (setRow_other w.drew g k _ hk.2)
  · exact setRow_heap _ g _ _ _ _ (setRow_heap w.drew g cur _ 2 _ hg)
end Go.Proofs.Ytngghbloijkfoaa
