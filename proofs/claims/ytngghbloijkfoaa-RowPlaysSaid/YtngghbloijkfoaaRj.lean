/- The plain law of rows of payments: taken out and put in again, a row stays a row. No program in sight. No condition. -/
import Derived.Test.YtngghbloijkfoaaRi
namespace Go.Proofs.Ytngghbloijkfoaa
open Go Go.Proofs Go.RowKit Vm
set_option linter.unusedVariables false
set_option linter.unusedSimpArgs false
theorem ah_iff (a b : List DV) : ahB a b = true ↔ frm a < frm b ∨ (frm a = frm b ∧ cls a ≤ cls b) := by
  unfold ahB
  simp
theorem ah_trans {a b c : List DV} (h1 : ahB a b = true) (h2 : ahB b c = true) : ahB a c = true := by
  rw [ah_iff] at *
  omega
theorem ah_total {a b : List DV} (h : ahB a b = false) : ahB b a = true := by
  cases hb : ahB b a with
  | true => rfl
  | false =>
    have h1 : ¬ (frm a < frm b ∨ (frm a = frm b ∧ cls a ≤ cls b)) := fun h' => by rw [(ah_iff a b).2 h'] at h; cases h
    have h2 : ¬ (frm b < frm a ∨ (frm b = frm a ∧ cls b ≤ cls a)) := fun h' => by rw [(ah_iff b a).2 h'] at hb; cases hb
    omega
theorem sort_pw : ∀ es : List (List DV), sortB es = true ↔ es.Pairwise (fun a b => ahB a b = true)
  | [] => by simp [sortB]
  | [a] => by simp [sortB]
  | a :: b :: l => by
    rw [List.pairwise_cons, ← sort_pw (b :: l)]
    simp only [sortB, Bool.and_eq_true]
    constructor
    · rintro ⟨h1, h2⟩
      refine ⟨fun x hx => ?_, h2⟩
      rcases List.mem_cons.1 hx with rfl | hx
      · exact h1
      · exact ah_trans h1 ((List.pairwise_cons.1 ((sort_pw (b :: l)).1 h2)).1 x hx)
    · rintro ⟨h1, h2⟩
      exact ⟨h1 b (by simp), h2⟩
def ND (l : List (List DV)) : Prop := l.Pairwise fun a b => idO a ≠ idO b
theorem fI_app (D : List (List DV)) {p : List DV} {id : Int} (hp : idO p = id) : ∀ T : List (List DV), (∀ a ∈ T, idO a ≠ id) → fI (T ++ p :: D) id = T.length
  | [], _ => by
    show fI (p :: D) id = _
    have : fI (p :: D) id = cond (idO p == id) 0 (cond (decide (fI D id < 0)) (-1) (fI D id + 1)) := rfl
    rw [this, show (idO p == id) = true from beq_iff_eq.2 hp]
    rfl
  | e :: T, h => by
    have ih := fI_app D hp T fun a ha => h a (by simp [ha])
    have : fI (e :: (T ++ p :: D)) id = cond (idO e == id) 0 (cond (decide (fI (T ++ p :: D) id < 0)) (-1) (fI (T ++ p :: D) id + 1)) := rfl
    rw [List.cons_append, this, show (idO e == id) = false from beq_eq_false_iff_ne.2 (h e (by simp)), ih, decide_eq_false (by omega)]
    simp
theorem fI_no {l : List (List DV)} {id : Int} (h : ∀ a ∈ l, idO a ≠ id) : fI l id < 0 := by
  have h1 := fI_any l id
  have h2 : (l.any fun e => idO e == id) = false := by
    rw [List.any_eq_false]
    intro e he
    simpa using h e he
  rw [h2] at h1
  have := of_decide_eq_false h1
  omega
theorem uni_to {l : List (List DV)} (h : uniF l 0 l = true) : ∀ k (hk : k < l.length), fI l (idO l[k]) = (k : Int) ∧ uniF l (k + 1) (l.drop (k + 1)) = true
  | 0, hk => by
    have := uni_drop (l := l) hk
    rw [List.drop_zero, h] at this
    have := Bool.and_eq_true_iff.1 this.symm
    exact ⟨by simpa using this.1, this.2⟩
  | k + 1, hk => by
    have h1 := (uni_to h k (by omega)).2
    rw [uni_drop hk] at h1
    have := Bool.and_eq_true_iff.1 h1
    exact ⟨by simpa using this.1, this.2⟩
theorem uni_of {l : List (List DV)} (h : ∀ k (hk : k < l.length), fI l (idO l[k]) = (k : Int)) : ∀ n i, l.length - i = n → uniF l i (l.drop i) = true
  | 0, i, hn => by
    rw [List.drop_eq_nil_of_le (by omega)]
    rfl
  | n + 1, i, hn => by
    rw [uni_drop (show i < l.length by omega), uni_of h n (i + 1) (by omega), h i (by omega)]
    simp
theorem nd_of {l : List (List DV)} (h : ∀ k (hk : k < l.length), fI l (idO l[k]) = (k : Int)) : ND l := by
  unfold ND
  rw [List.pairwise_iff_getElem]
  intro i j hi hj hij he
  have h1 := h i hi
  rw [he, h j hj] at h1
  omega
theorem nd_fI {l : List (List DV)} (h : ND l) (k : Nat) (hk : k < l.length) : fI l (idO l[k]) = (k : Int) := by
  have hl : l = l.take k ++ l[k] :: l.drop (k + 1) := by rw [← List.drop_eq_getElem_cons hk, List.take_append_drop]
  have hk2 : (l.take k).length = k := by rw [List.length_take]; omega
  have := fI_app (l.drop (k + 1)) (p := l[k]) rfl (l.take k) (fun a ha => by
    have h' := h
    unfold ND at h'
    rw [hl] at h'
    exact (List.pairwise_append.1 h').2.2 a ha _ (List.mem_cons.2 (.inl rfl)))
  rw [← hl, hk2] at this
  exact this
theorem isP_iff (l : List (List DV)) : isP l = true ↔ ND l ∧ l.length ≤ 40 ∧ l.Pairwise (fun a b => ahB a b = true) := by
  unfold isP
  rw [Bool.and_eq_true, Bool.and_eq_true, decide_eq_true_eq, sort_pw]
  constructor
  · rintro ⟨h1, h2⟩
    exact ⟨nd_of fun k hk => (uni_to h1 k hk).1, h2⟩
  · rintro ⟨h1, h2⟩
    refine ⟨?_, h2⟩
    have := uni_of (fun k hk => nd_fI h1 k hk) (l.length - 0) 0 rfl
    rwa [List.drop_zero] at this
theorem ins_pw {r : List DV → List DV → Prop} {R : List (List DV)} (h : R.Pairwise r) (b : Nat) {p : List DV} (h1 : ∀ a ∈ R.take b, r a p) (h2 : ∀ d ∈ R.drop b, r p d) : (R.take b ++ p :: R.drop b).Pairwise r := by
  have h' := h
  rw [← List.take_append_drop b R] at h'
  obtain ⟨k1, k2, k3⟩ := List.pairwise_append.1 h'
  refine List.pairwise_append.2 ⟨k1, List.pairwise_cons.2 ⟨h2, k2⟩, fun a ha d hd => ?_⟩
  rcases List.mem_cons.1 hd with rfl | hd
  · exact h1 a ha
  · exact k3 a ha d hd
/-- behind the place of a payment stands none that may stand ahead of it -/
theorem bh_drop {R : List (List DV)} (h : R.Pairwise (fun a b => ahB a b = true)) (p : List DV) : ∀ d ∈ R.drop (bhP R p), ahB d p = false := fun d hd => by
  obtain ⟨k1, _, k3⟩ := tw_spec (fun e => ahB e p) R
  change bhP R p ≤ R.length at k1
  change ∀ h : bhP R p < R.length, ahB R[bhP R p] p = false at k3
  obtain ⟨i, hi, rfl⟩ := List.getElem_of_mem hd
  rw [List.length_drop] at hi
  rw [List.getElem_drop]
  cases hc : ahB R[bhP R p + i] p with
  | false => rfl
  | true =>
    have h0 := k3 (by omega)
    by_cases h00 : i = 0
    · subst h00
      rw [← hc, ← h0]
      simp
    · have := List.pairwise_iff_getElem.1 h (bhP R p) (bhP R p + i) (by omega) (by omega) (by omega)
      rw [ah_trans this hc] at h0
      cases h0
theorem bh_take (R : List (List DV)) (p : List DV) : ∀ a ∈ R.take (bhP R p), ahB a p = true := fun a ha => by
  obtain ⟨k1, k2, _⟩ := tw_spec (fun e => ahB e p) R
  change ∀ i (_ : i < bhP R p) (h2 : i < R.length), ahB R[i] p = true at k2
  obtain ⟨i, hi, rfl⟩ := List.getElem_of_mem ha
  rw [List.length_take] at hi
  rw [List.getElem_take]
  exact k2 i (by omega) (by omega)
/-- one taken out -/
theorem take_out {es : List (List DV)} (h : isP es = true) {j : Nat} (hj : j < es.length) :
    fI es (idO es[j]) = (j : Int) ∧ dropL es (idO es[j]) = es.take j ++ es.drop (j + 1) ∧ dropP es (idO es[j]) = es[j] ∧ dropE es (idO es[j]) = 0 ∧
    ND (es.take j ++ es.drop (j + 1)) ∧ (es.take j ++ es.drop (j + 1)).Pairwise (fun a b => ahB a b = true) ∧ (∀ a ∈ es.take j ++ es.drop (j + 1), idO a ≠ idO es[j]) ∧ (es.take j ++ es.drop (j + 1)).length + 1 = es.length := by
  obtain ⟨h1, h2, h3⟩ := (isP_iff es).1 h
  have hf := nd_fI h1 j hj
  have hn : decide (fI es (idO es[j]) < 0) = false := decide_eq_false (by omega)
  have hl : es = es.take j ++ es[j] :: es.drop (j + 1) := by rw [← List.drop_eq_getElem_cons hj, List.take_append_drop]
  have hs : List.Sublist (es.take j ++ es.drop (j + 1)) es := by
    conv => rhs; rw [hl]
    exact List.Sublist.append_left (List.sublist_cons_self _ _) _
  refine ⟨hf, ?_, ?_, ?_, h1.sublist hs, h3.sublist hs, fun a ha => ?_, ?_⟩
  · unfold dropL
    rw [hn, hf]
    rfl
  · unfold dropP
    rw [hn, hf, Int.toNat_natCast, List.getElem?_eq_getElem hj]
    rfl
  · unfold dropE
    rw [hn]
    rfl
  · have h1' := h1
    unfold ND at h1'
    rw [hl] at h1'
    obtain ⟨k1, k2, k3⟩ := List.pairwise_append.1 h1'
    rcases List.mem_append.1 ha with ha | ha
    · exact k3 a ha _ (List.mem_cons.2 (.inl rfl))
    · exact ((List.pairwise_cons.1 k2).1 a ha).symm
  · rw [List.length_append, List.length_take, List.length_drop]
    omega
/-- one put in, behind all like it -/
theorem put_in {R : List (List DV)} (h1 : ND R) (h2 : R.Pairwise (fun a b => ahB a b = true)) (hl : R.length < 40) {p : List DV} (hp : ∀ a ∈ R, idO a ≠ idO p) :
    putL R p = R.take (bhP R p) ++ p :: R.drop (bhP R p) ∧ putE R p = 0 ∧ isP (putL R p) = true ∧ fI (putL R p) (idO p) = (bhP R p : Nat) ∧ dropL (putL R p) (idO p) = R ∧ (putL R p)[bhP R p]? = some p := by
  have hno : decide (0 ≤ fI R (idO p)) = false := decide_eq_false (by have := fI_no hp; omega)
  have hb := bh_le R p
  have e : putL R p = R.take (bhP R p) ++ p :: R.drop (bhP R p) := by
    unfold putL
    rw [hno, decide_eq_false (show ¬ 40 ≤ R.length by omega)]
    rfl
  have hT : ∀ a ∈ R.take (bhP R p), idO a ≠ idO p := fun a ha => hp a (List.mem_of_mem_take ha)
  have hTl : (R.take (bhP R p)).length = bhP R p := by rw [List.length_take]; omega
  have hf : fI (putL R p) (idO p) = (bhP R p : Nat) := by
    rw [e, fI_app _ rfl _ hT, hTl]
  refine ⟨e, ?_, ?_, hf, ?_, ?_⟩
  · unfold putE
    rw [hno, decide_eq_false (show ¬ 40 ≤ R.length by omega)]
    rfl
  · rw [isP_iff, e]
    refine ⟨ins_pw h1 _ hT (fun d hd => (hp d (List.mem_of_mem_drop hd)).symm), ?_, ins_pw h2 _ (bh_take R p) fun d hd => ah_total (bh_drop h2 p d hd)⟩
    rw [List.length_append, List.length_cons, List.length_take, List.length_drop]
    omega
  · unfold dropL delB
    rw [hf, decide_eq_false (show ¬ ((bhP R p : Nat) : Int) < 0 by omega), cond_false, Int.toNat_natCast, e]
    have q1 : (R.take (bhP R p) ++ p :: R.drop (bhP R p)).take (bhP R p) = R.take (bhP R p) := by
      rw [List.take_append_of_le_length (by omega), List.take_of_length_le (by omega)]
    have q2 : (R.take (bhP R p) ++ p :: R.drop (bhP R p)).drop (bhP R p + 1) = R.drop (bhP R p) := by
      rw [List.drop_append, List.drop_eq_nil_of_le (by omega), hTl, List.nil_append, show bhP R p + 1 - bhP R p = 1 by omega]
      rfl
    rw [q1, q2, List.take_append_drop]
  · rw [e, List.getElem?_append_right (by omega), hTl, Nat.sub_self]
    rfl
end Go.Proofs.Ytngghbloijkfoaa
