/- Heads is the document's Heads. No condition. -/
import Derived.Test.YtjejjokdbbedlaaVl
namespace Go.Proofs.Ytjejjokdbbedlaa
open Go Go.Proofs Go.RowKit Vm
set_option linter.unusedVariables false
set_option linter.unusedSimpArgs false
def alnS : FSpec where
  D ds := ∃ x, ds = [x, .func 27 [.rptr [.sla false 1 []] 0]] ∧ Sl 7 x ∧ (rowsA x).length ≤ 1000 ∧ ∀ e ∈ rowsA x, okRow z7 e = true
  val ds := some (.sla false 7 [])
noncomputable def spE : FuncId → Option FSpec := spAdd 22 alnS (spAdd 26 (cloS true) noSp)
theorem t27p (n : Nat) (e : List DV) : FK tab noSp lsp0 20 (n+12) 27 [pv e, .rptr [.sla false 1 []] 0] =
   (bif bif decide ((cellA e 1).toI < (0 : Int)) then true else decide ((cellA e 1).toI ≥ (0 : Int)) then some (DV.bool false)
 else bif decide ((0 : Int) ≤ (cellA e 1).toI) then none else none) :=
  (show FK tab noSp lsp0 20 (n+12) 27 [pv e, .rptr [.sla false 1 []] 0] =
 (cond (bif decide ((cellA e 1).toI < (0 : Int)) then true else decide ((cellA e 1).toI ≥ (0 : Int)))
 (some (.bool false))
 (cond (decide ((0 : Int) ≤ (cellA e 1).toI))
 none
 none)) from by kernel_rfl).trans (by first | rfl | (simp only [decide_true, decide_false, eq_self, and_true, true_and, and_self, cond_true, cond_false, Nat.le_refl, Int.le_refl, Option.getD_some, Option.getD_none, Int.toNat_natCast, List.take_length, List.drop_zero, Nat.zero_add, List.nil_append, List.all_nil, List.append_nil, Bool.true_and, Bool.and_true, rowsA_sla, rowsA_sl, rowsA_nil, minus_zero, nat_le_cast, nat_nonneg, Option.isSome_some, Option.isSome_none, Bool.false_eq_true, false_and, and_false, if_true, if_false, implies_true, Int.toNat_zero, Bool.not_false, Bool.not_true, bne_self_eq_false]; done) | (simp only [decide_true, decide_false, eq_self, and_true, true_and, and_self, cond_true, cond_false, Nat.le_refl, Int.le_refl, Option.getD_some, Option.getD_none, Int.toNat_natCast, List.take_length, List.drop_zero, Nat.zero_add, List.nil_append, List.all_nil, List.append_nil, Bool.true_and, Bool.and_true, rowsA_sla, rowsA_sl, rowsA_nil, minus_zero, nat_le_cast, nat_nonneg, Option.isSome_some, Option.isSome_none, Bool.false_eq_true, false_and, and_false, if_true, if_false, implies_true, Int.toNat_zero, Bool.not_false, Bool.not_true, bne_self_eq_false]; rfl))
theorem t14n (n : Nat) (l : List (List DV)) : FK tab spE lsp0 20 (n+12) 14 [.sla false 7 l, .sla false 1 []] =
   (need ((cloS true).D [DV.sla false 1 []])
 (need (alnS.D [DV.sla false 7 l, DV.func (27 : FuncId) [DV.rptr [DV.sla false 1 []] (0 : Nat)]]) (some (DV.sla false 7 [])))) :=
  (show FK tab spE lsp0 20 (n+12) 14 [.sla false 7 l, .sla false 1 []] =
 (need (FSpec.D (cloS true) [(.sla false 1 [])])
 (need (FSpec.D (alnS) [(.sla false 7 l), (.func 27 [(.rptr [(.sla false 1 [])] 0)])])
 (some (.sla false 7 [])))) from by kernel_rfl).trans (by first | rfl | (simp only [decide_true, decide_false, eq_self, and_true, true_and, and_self, cond_true, cond_false, Nat.le_refl, Int.le_refl, Option.getD_some, Option.getD_none, Int.toNat_natCast, List.take_length, List.drop_zero, Nat.zero_add, List.nil_append, List.all_nil, List.append_nil, Bool.true_and, Bool.and_true, rowsA_sla, rowsA_sl, rowsA_nil, minus_zero, nat_le_cast, nat_nonneg, Option.isSome_some, Option.isSome_none, Bool.false_eq_true, false_and, and_false, if_true, if_false, implies_true, Int.toNat_zero, Bool.not_false, Bool.not_true, bne_self_eq_false]; done) | (simp only [decide_true, decide_false, eq_self, and_true, true_and, and_self, cond_true, cond_false, Nat.le_refl, Int.le_refl, Option.getD_some, Option.getD_none, Int.toNat_natCast, List.take_length, List.drop_zero, Nat.zero_add, List.nil_append, List.all_nil, List.append_nil, Bool.true_and, Bool.and_true, rowsA_sla, rowsA_sl, rowsA_nil, minus_zero, nat_le_cast, nat_nonneg, Option.isSome_some, Option.isSome_none, Bool.false_eq_true, false_and, and_false, if_true, if_false, implies_true, Int.toNat_zero, Bool.not_false, Bool.not_true, bne_self_eq_false]; rfl))
theorem cl27p (e : List DV) : EntX Try.prog 27 [pv e, .rptr [.sla false 1 []] 0] (.bool false) := by
  refine spec_run (lsp := lsp0) tab_ok noSp_ok 20 (0 + 12) ((t27p 0 e).trans ?_)
  have : (bif decide ((cellA e 1).toI < (0 : Int)) then true else decide ((cellA e 1).toI ≥ (0 : Int))) = true := by
    by_cases h : (cellA e 1).toI < (0 : Int)
    · rw [decide_eq_true h]
      rfl
    · rw [decide_eq_false h, decide_eq_true (show (cellA e 1).toI ≥ (0 : Int) by omega)]
      rfl
  simp only [this, cond_true]
theorem aln22 : alnS.ok Try.prog 22 := fun ds r hD hv => by
  obtain ⟨x, rfl, hx, hl, hz⟩ := hD
  cases hv
  refine EntX.gen1 hx ?_
  have h := allPure (g := 27) (caps := [.rptr [.sla false 1 []] 0]) (φ := fun _ => false) (l := rowsA x) cl27p hz hl
  rw [outN_filter hz (fun _ => false), show (rowsA x).filter (fun _ => false) = [] from by simp] at h
  exact EntX.sla7 h
theorem spE_ok : ∀ f s, spE f = some s → s.ok Try.prog f := spAdd_ok aln22 (spAdd_ok (clo26 true) noSp_ok)
def vH (m c : Int) : Int := if m ≤ 0 then m else if m - c ≥ 0 then m - c else 0
theorem vH_dec {m c : Int} (h : ¬ vH m c < 1) (hc : 0 ≤ c) : vH m c - 1 = vH m (c + 1) := by
  unfold vH at *
  by_cases h1 : m ≤ 0
  · simp only [h1, if_true] at h
    omega
  · simp only [h1, if_false] at h ⊢
    by_cases h2 : m - c ≥ 0
    · simp only [h2, if_true] at h ⊢
      rw [if_pos (by omega)]
      omega
    · simp only [h2, if_false] at h
      omega
theorem vH_stop {m c : Int} (h : vH m c < 1) (hc : 0 ≤ c) : vH m c = vH m (c + 1) := by
  unfold vH at *
  by_cases h1 : m ≤ 0
  · simp only [h1, if_true]
  · simp only [h1, if_false] at h ⊢
    by_cases h2 : m - c ≥ 0
    · simp only [h2, if_true] at h ⊢
      rw [if_neg (by omega)]
      omega
    · simp only [h2, if_false] at h ⊢
      rw [if_neg (by omega)]
def cntF (l : List (List DV)) (i : Nat) (f : Int) : Int := (((l.take i).filter (clB 31 f)).length : Int)
theorem cnt_succ (l : List (List DV)) {i : Nat} (hi : i < l.length) (f : Int) : cntF l (i + 1) f = cntF l i f + (if frm l[i] = f then 1 else 0) := by
  unfold cntF
  rw [List.take_add_one, List.getElem?_eq_getElem hi, Option.toList_some, List.filter_append, List.length_append]
  have : clB 31 f l[i] = (frm l[i] == f) := rfl
  by_cases h : frm l[i] = f
  · rw [if_pos h, List.filter_cons, if_pos (by rw [this, h]; simp)]
    simp
  · rw [if_neg h, List.filter_cons, if_neg (by rw [this]; simp [h])]
    simp
theorem stH_at (M l : List (List DV)) : ∀ i, i ≤ l.length → ∀ f : Int, 0 ≤ f → f < (M.length : Int) → cel ((stH M l i)[f.toNat]?.getD []) = vH (cel (M[f.toNat]?.getD [])) (cntF l i f) := by
  intro i
  induction i with
  | zero =>
    intro _ f h0 h1
    show cel (M[f.toNat]?.getD []) = _
    have : cntF l 0 f = 0 := by simp [cntF]
    rw [this]
    unfold vH
    split
    · rfl
    · split <;> omega
  | succ i ih =>
    intro hi f h0 h1
    have hlt : i < l.length := by omega
    have hI := ih (by omega) f h0 h1
    have hlen := stH_len M l i
    rw [cnt_succ l hlt f]
    show cel ((nxtH (stH M l i) (l[i]?.getD []))[f.toNat]?.getD []) = _
    rw [gd hlt]
    have hfl : f.toNat < (stH M l i).length := by omega
    by_cases hf : frm l[i] = f
    · rw [if_pos hf]
      unfold nxtH decH
      rw [hf, hI, hlen]
      generalize cel (M[f.toNat]?.getD []) = m at hI ⊢
      have hc : 0 ≤ cntF l i f := by unfold cntF; omega
      generalize cntF l i f = c at *
      rw [decide_eq_false (show ¬ f < 0 by omega), decide_eq_false (show ¬ f ≥ (M.length : Int) by omega)]
      cases hd : decide (vH m c < 1) with
      | false =>
        have := of_decide_eq_false hd
        simp only [Bool.or_self, Bool.not_false, Bool.and_self, cond_true]
        rw [List.getElem?_set_self hfl]
        exact vH_dec this hc
      | true =>
        have := of_decide_eq_true hd
        simp only [Bool.or_self, Bool.not_false, Bool.not_true, Bool.and_false, cond_false]
        rw [hI]
        exact vH_stop this hc
    · rw [if_neg hf, Int.add_zero, ← hI]
      unfold nxtH
      cases hd : decH (stH M l i) l[i] with
      | false => rfl
      | true =>
        rw [cond_true, List.getElem?_set_ne]
        unfold decH at hd
        simp at hd
        omega
theorem dec_hd (M l : List (List DV)) {i : Nat} (hi : i < l.length) : decHs M l i = hdB M l i := by
  unfold decHs hdB decH
  rw [gd hi, stH_len]
  by_cases h0 : frm l[i] < 0
  · rw [decide_eq_true h0, decide_eq_false (show ¬ frm l[i] ≥ 0 by omega)]
    rfl
  · rw [decide_eq_false h0, decide_eq_true (show frm l[i] ≥ 0 by omega)]
    by_cases h1 : frm l[i] < (M.length : Int)
    · rw [decide_eq_false (show ¬ frm l[i] ≥ (M.length : Int) by omega), decide_eq_true h1, stH_at M l i (by omega) _ (by omega) h1]
      show (!decide (vH _ (cntF l i (frm l[i])) < 1)) = decide (cntF l i (frm l[i]) < cel (M[(frm l[i]).toNat]?.getD []))
      generalize cel (M[(frm l[i]).toNat]?.getD []) = m
      have hc : 0 ≤ cntF l i (frm l[i]) := by unfold cntF; omega
      generalize cntF l i (frm l[i]) = c at *
      by_cases h : c < m
      · rw [decide_eq_true h, decide_eq_false]
        · rfl
        · unfold vH
          split
          · omega
          · split <;> omega
      · rw [decide_eq_false h, decide_eq_true]
        · rfl
        · unfold vH
          split
          · omega
          · split <;> omega
    · rw [decide_eq_true (show frm l[i] ≥ (M.length : Int) by omega), decide_eq_false h1]
      rfl
theorem outN_hd (M l : List (List DV)) : outN l.length (decHs M l) (rowP l) = outN l.length (hdB M l) (rowP l) := outN_congr (fun i hi => dec_hd M l hi) fun _ _ => rfl
theorem hd_nil (l : List (List DV)) : outN l.length (hdB [] l) (rowP l) = [] := by
  unfold outN
  rw [show (List.range l.length).filter (hdB [] l) = [] from ?_]
  · rfl
  · rw [List.filter_eq_nil_iff]
    intro i _
    unfold hdB
    by_cases h0 : frm (l[i]?.getD []) ≥ 0
    · rw [decide_eq_true h0, show decide (frm (l[i]?.getD []) < (([] : List (List DV)).length : Int)) = false from decide_eq_false (by simp; omega)]
      simp
    · rw [decide_eq_false h0]
      simp
theorem heads14S : (hdS hdB).ok Try.prog 14 := fun ds r hD hv => by
  obtain ⟨x, y, rfl, hx, hy, hl, hl2, hz, hM⟩ := hD
  cases hv
  refine EntX.gen2 hx hy ?_
  generalize rowsA x = l at *
  generalize rowsA y = M at *
  cases hne : M.isEmpty with
  | false =>
    have h := heads14 hz hl hM hl2 hne
    rw [outN_hd] at h
    exact EntX.sla7 h
  | true =>
    have : M = [] := List.isEmpty_iff.1 hne
    subst this
    rw [hd_nil]
    exact spec_run (lsp := lsp0) tab_ok spE_ok 20 (0 + 12) ((t14n 0 l).trans ((need_pos ⟨_, rfl, Sl.sla _ _ _, by simp [rowsA], fun e he => by simp [rowsA] at he, rfl⟩).trans (need_pos ⟨_, rfl, Sl.sla _ _ _, hl, hz⟩)))
end Go.Proofs.Ytjejjokdbbedlaa
