/- What a row of cells behind slices.Insert or Delete stands for. No condition. -/
import Derived.Test.YtngghbloijkfoaaInsLib
import Derived.Test.YtngghbloijkfoaaVmS
namespace Go.Proofs.Ytngghbloijkfoaa
open Go Go.Proofs Go.RowKit Go.Lib Vm
set_option linter.unusedVariables false
set_option linter.unusedSimpArgs false
theorem flat_take {R : DV → Value → Prop} {sz : Nat} {es : List (List DV)} {us : List Value} (h : FlatD R sz es us) (hr : ∀ e ∈ es, e.length = sz) (i : Nat) : FlatD R sz (es.take i) (us.take (i * sz)) := by
  refine ⟨?_, fun k j e c he hc => ?_⟩
  · rw [List.length_take, List.length_take, h.1]
    by_cases hi : i ≤ es.length
    · rw [Nat.min_eq_left hi, Nat.min_eq_left (Nat.mul_le_mul_right sz hi)]
    · have hi' : es.length ≤ i := by omega
      rw [Nat.min_eq_right hi', Nat.min_eq_right (Nat.mul_le_mul_right sz hi')]
  · rw [List.getElem?_take] at he
    split at he
    · rename_i hk
      obtain ⟨u, hu, hr2⟩ := h.2 k j e c he hc
      have hj : j < sz := by rw [← hr e (List.mem_of_getElem? he)]; exact (List.getElem?_eq_some_iff.1 hc).1
      refine ⟨u, ?_, hr2⟩
      have h2 := Nat.mul_le_mul_right sz (show k + 1 ≤ i by omega)
      rw [Nat.add_mul] at h2
      rw [List.getElem?_take, if_pos (by omega)]
      exact hu
    · cases he
theorem flat_drop {R : DV → Value → Prop} {sz : Nat} {es : List (List DV)} {us : List Value} (h : FlatD R sz es us) (i : Nat) : FlatD R sz (es.drop i) (us.drop (i * sz)) := by
  refine ⟨?_, fun k j e c he hc => ?_⟩
  · rw [List.length_drop, List.length_drop, h.1, Nat.sub_mul]
  · rw [List.getElem?_drop] at he
    obtain ⟨u, hu, hr2⟩ := h.2 (i + k) j e c he hc
    refine ⟨u, ?_, hr2⟩
    rw [List.getElem?_drop, ← hu]
    congr 1
    rw [Nat.add_mul]
    omega
theorem flat_one {R : DV → Value → Prop} {sz : Nat} {r : List DV} {us : List Value} (hr : r.length = sz) (hl : us.length = sz) (h : ∀ (j : Nat) c, r[j]? = some c → ∃ u, us[j]? = some u ∧ R c u) : FlatD R sz [r] us := by
  refine ⟨by simp [hl], fun k j e c he hc => ?_⟩
  cases k with
  | zero =>
    simp only [List.getElem?_cons_zero, Option.some.injEq] at he
    subst he
    simpa using h j c hc
  | succ k => simp at he
theorem shift_row {α : Type} {cur us vs : List α} {K p q : Nat} (hus : cur.take K = us) (hK : us.length = K) (hp : p ≤ K) (hq : vs.length = q) (hl : K + q ≤ cur.length) :
    (splice (splice cur (p + q) ((cur.drop p).take (K - p))) p vs).take (K + q) = us.take p ++ vs ++ us.drop p := by
  have h1 : (cur.drop p).take (K - p) = us.drop p := by rw [← hus, List.drop_take]
  have h2 : cur.take p = us.take p := by rw [← hus, List.take_take, Nat.min_eq_left hp]
  rw [h1]
  have h3 : (us.drop p).length = K - p := by rw [List.length_drop, hK]
  have h4 : (us.take p).length = p := by rw [List.length_take, hK]; omega
  have h5 : (splice cur (p + q) (us.drop p)).take p = us.take p := by
    simp only [splice]
    rw [List.append_assoc, List.take_append_of_le_length (by rw [List.length_take]; omega), List.take_take, Nat.min_eq_left (by omega), h2]
  have h6 : (splice cur (p + q) (us.drop p)).drop (p + q) = us.drop p ++ cur.drop (p + q + (K - p)) := by
    simp only [splice, h3]
    rw [List.append_assoc]
    exact List.drop_left' (by rw [List.length_take]; omega)
  show List.take (K + q) ((splice cur (p + q) (us.drop p)).take p ++ vs ++ (splice cur (p + q) (us.drop p)).drop (p + vs.length)) = _
  rw [hq, h5, h6, ← List.append_assoc]
  exact List.take_left' (by rw [List.length_append, List.length_append, h4, hq, h3]; omega)
/-- what is handed back whole: a row of a block that is the call's to change, or new -/
theorem post_row {o : Base} {S0 : Nat → Nat → Prop} {w w' : World} {g G el sz : Nat} {es : List (List DV)} {row us : List Value} (how : o.w = w) (hb : BelowP o.old w w') (hold : ∀ b p, S0 b p → o.old b) (hS : ∀ b o, S0 b o → b < w.heap.size) (hg : ¬ o.old g)
    (hsz : w.heap.size ≤ w'.heap.size) (hrow : w'.heap[g]? = some (.cells row.toArray el (0, 0))) (hrl : row.length = G * sz) (hn : es.length ≤ G) (hG : G ≤ maxLen) (ht : row.take (es.length * sz) = us) (hes : ∀ e ∈ es, e.length = sz ∧ e.all DV.one = true) (hf : FlatD (RdD w S0) sz es us) :
    Post o S0 (.sl (.own el) sz es) (.slice (some ⟨g, 0, none⟩) es.length G) w' S0 := by
  have hk : Kept w w' S0 S0 := ⟨fun _ _ h => h, fun b p hp u hu => by
    rw [World.cell?] at hu ⊢
    rw [hb.block b (hold b p hp)]
    exact hu⟩
  subst how
  refine ⟨hb, fun _ _ h => h, fun b p h => .inl h, fun b p h => Nat.lt_of_lt_of_le (hS b p h) hsz, ⟨g, G, rfl, hes, hg, ⟨row.toArray, hrow, by simpa using hrl, fun i j hi hj => ?_⟩, hn, hG, fun p hp => hg (hold g p hp)⟩⟩
  have hel := (hes _ (List.getElem_mem hi)).1
  obtain ⟨u, hu, hr⟩ := hf.2 i j es[i] (es[i][j]'(by omega)) (List.getElem?_eq_getElem hi) (List.getElem?_eq_getElem (by omega))
  refine ⟨u, ?_, fun e c he hc => ?_⟩
  · rw [← ht, List.getElem?_take] at hu
    split at hu
    · simpa using hu
    · cases hu
  · rw [List.getElem?_eq_getElem hi] at he
    cases he
    rw [List.getElem?_eq_getElem (by omega)] at hc
    cases hc
    exact RdD.kept hk _ u hr
end Go.Proofs.Ytngghbloijkfoaa
