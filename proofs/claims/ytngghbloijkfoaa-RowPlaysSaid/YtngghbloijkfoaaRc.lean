/- What is known of the functions on rows of payments, by their runs: is it a row. No condition. -/
import Derived.Test.YtngghbloijkfoaaRb
namespace Go.Proofs.Ytngghbloijkfoaa
open Go Go.Proofs Go.RowKit Vm
set_option linter.unusedVariables false
set_option linter.unusedSimpArgs false
theorem eta7 {e : List DV} (h : okRow z7 e = true) : [DV.int .i64 (cellA e 0).toI, .int .i64 (cellA e 1).toI, .int .i64 (cellA e 2).toI, .int .i64 (cellA e 3).toI, .int .i64 (cellA e 4).toI, .int .i64 (cellA e 5).toI, .int .i64 (cellA e 6).toI] = e := by
  obtain ⟨a0, a1, a2, a3, a4, a5, a6, rfl⟩ := okRow_p h
  rfl
theorem ord_lt (a b : List DV) : decide (ordI a b < 0) = !ahB b a := by
  unfold ordI ahB
  by_cases h1 : frm a < frm b
  · rw [decide_eq_true h1, decide_eq_false (show ¬ frm b < frm a by omega), decide_eq_false (show ¬ frm b = frm a by omega)]; rfl
  · rw [decide_eq_false h1]
    by_cases h2 : frm a > frm b
    · rw [decide_eq_true h2]; rfl
    · rw [decide_eq_false h2, decide_eq_true (show frm b = frm a by omega)]
      by_cases h3 : cls a < cls b
      · rw [decide_eq_true h3, decide_eq_false (show ¬ cls b ≤ cls a by omega)]; rfl
      · rw [decide_eq_false h3, decide_eq_true (show cls b ≤ cls a by omega)]
        cases decide (cls a > cls b) <;> rfl
theorem ord_le (a b : List DV) : decide (ordI a b ≤ 0) = ahB a b := by
  unfold ordI ahB
  by_cases h1 : frm a < frm b
  · rw [decide_eq_true h1]; rfl
  · rw [decide_eq_false h1]
    by_cases h2 : frm a > frm b
    · rw [decide_eq_true h2, decide_eq_false (show ¬ frm a = frm b by omega)]; rfl
    · rw [decide_eq_false h2, decide_eq_true (show frm a = frm b by omega)]
      by_cases h3 : cls a < cls b
      · rw [decide_eq_true h3, decide_eq_true (show cls a ≤ cls b by omega)]; rfl
      · rw [decide_eq_false h3]
        by_cases h4 : cls a > cls b
        · rw [decide_eq_true h4, decide_eq_false (show ¬ cls a ≤ cls b by omega)]; rfl
        · rw [decide_eq_false h4, decide_eq_true (show cls a ≤ cls b by omega)]; rfl
theorem sort_drop {es : List (List DV)} {i : Nat} (hi : i + 1 < es.length) : sortB (es.drop i) = (ahB es[i] es[i + 1] && sortB (es.drop (i + 1))) := by
  rw [List.drop_eq_getElem_cons (show i < es.length by omega), List.drop_eq_getElem_cons hi]
  rfl
theorem sort_last {es : List (List DV)} {i : Nat} (hi : es.length ≤ i + 1) : sortB (es.drop i) = true := by
  by_cases h : i < es.length
  · rw [List.drop_eq_getElem_cons h, List.drop_eq_nil_of_le hi]
    rfl
  · rw [List.drop_eq_nil_of_le (by omega)]
    rfl
theorem sort_at {es : List (List DV)} (h : sortB es = true) : ∀ i (hi : i + 1 < es.length), ahB es[i] es[i + 1] = true ∧ sortB (es.drop i) = true
  | 0, hi => by
    have := sort_drop hi
    rw [List.drop_zero, h] at this
    rw [List.drop_zero]
    exact ⟨(Bool.and_eq_true_iff.1 this.symm).1, h⟩
  | i + 1, hi => by
    have h1 := (sort_at h i (by omega)).2
    rw [sort_drop (by omega)] at h1
    have h2 := (Bool.and_eq_true_iff.1 h1).2
    have h3 := h2
    rw [sort_drop hi] at h3
    exact ⟨(Bool.and_eq_true_iff.1 h3).1, h2⟩
theorem sort_not {es : List (List DV)} {i : Nat} (hi : i + 1 < es.length) (h : ahB es[i] es[i + 1] = false) : sortB es = false := by
  cases hs : sortB es with
  | false => rfl
  | true =>
    rw [(sort_at hs i hi).1] at h
    cases h
theorem loop380 (L n : Nat) {es : List (List DV)} (hz : ∀ e ∈ es, okRow z7 e = true) (hl : es.length ≤ 1000) : ∀ r, (LR.br (sortB es) (.one (.ex 0) (St.of [] [])) (.one .ret (St.of [(4, .d (.bool false))] []))).val = some r →
    LoopOk (LB tab spO lp L (n+4) h380 c38l0) (S380 (.sla false 7 es) (IntKind.i64.wrap ((es.length : Int) - 1))) r := by
  intro r hr
  by_cases h0 : es.length = 0
  · have : es = [] := List.eq_nil_of_length_eq_zero h0
    subst this
    have hr' : r = (.ex 0, St.of [] []) := by
      simp only [sortB, LR.val, cond_true, Option.some.injEq] at hr
      exact hr.symm
    subst hr'
    exact loop_meas (fun _ : Unit => S380 (.sla false 7 []) (IntKind.i64.wrap (([] : List (List DV)).length - 1))) (fun _ => 0) (fun _ => True) (fun _ => (.ex 0, St.of [] [])) (fun _ _ => .inr ⟨by simp, fun k => s380n L n [] k⟩) () trivial
  · have hw : IntKind.i64.wrap ((es.length : Int) - 1) = ((es.length - 1 : Nat) : Int) := wrap_pred (by omega) (by omega)
    rw [hw]
    refine loop_meas (fun i : Nat => S380 (.sla false 7 es) (i : Nat)) (fun i => i) (fun i => i < es.length ∧ sortB (es.drop i) = true) (fun _ => r) (fun i hs => ?_) (es.length - 1) ⟨by omega, sort_last (by omega)⟩
    obtain ⟨h1, h2⟩ := hs
    by_cases hi : 0 < i
    · obtain ⟨j, rfl⟩ : ∃ j, i = j + 1 := ⟨i - 1, by omega⟩
      have hj : j < es.length := by omega
      have hz1 := hz _ (List.getElem_mem h1)
      have hz2 := hz _ (List.getElem_mem hj)
      have hwp : IntKind.i64.wrap (((j + 1 : Nat) : Int) - 1) = ((j : Nat) : Int) := by rw [wrap_pred (by omega) (by omega)]; rfl
      have hstep : ∀ k, LB tab spO lp L (n+4) h380 c38l0 (S380 (.sla false 7 es) ((j + 1 : Nat) : Int)) k = cond (!ahB es[j] es[j + 1]) (k .ret (St.of [(4, .d (.bool false))] [])) (k .nrm (S380 (.sla false 7 es) ((j : Nat) : Int))) := by
        intro k
        rw [s380, decide_eq_true (show ((j + 1 : Nat) : Int) > 0 by omega), cond_true, look_nat h1, hz1, cond_true, hwp, decide_eq_true (show (0 : Int) ≤ ((j : Nat) : Int) by omega), cond_true, Int.toNat_natCast, look_nat hj, hz2, cond_true, eta7 hz1, eta7 hz2, ord_lt]
        exact need_pos ⟨_, _, rfl, hz1, hz2⟩
      cases ha : ahB es[j] es[j + 1] with
      | true =>
        left
        refine ⟨j, ⟨hj, by rw [sort_drop h1, ha, h2]; rfl⟩, by omega, rfl, fun k => by rw [hstep, ha]; rfl⟩
      | false =>
        right
        have : r = (.ret, St.of [(4, .d (.bool false))] []) := by
          rw [sort_not h1 ha] at hr
          simp only [LR.val, cond_false, Option.some.injEq] at hr
          exact hr.symm
        subst this
        exact ⟨by simp, fun k => by rw [hstep, ha]; rfl⟩
    · right
      have : i = 0 := by omega
      subst this
      have : r = (.ex 0, St.of [] []) := by
        rw [List.drop_zero] at h2
        rw [h2] at hr
        simp only [LR.val, cond_true, Option.some.injEq] at hr
        exact hr.symm
      subst this
      exact ⟨by simp, fun k => by rw [s380]; rfl⟩
theorem spO_ok : ∀ f s, spO f = some s → s.ok Try.prog f := spAdd_ok ord39 noSp_ok
theorem srt38 : srtS.ok Try.prog 38 := fun ds r hD hv => by
  obtain ⟨x, rfl, hx, hz, hl⟩ := hD
  cases hv
  refine EntX.gen1 hx (spec_run (lsp := lp) tab_ok spO_ok 20 (0 + 8) ((t38 20 0 (rowsA x)).trans ?_))
  generalize rowsA x = es at *
  have h := loop380 20 (0 + 4) hz hl
  cases hb : sortB es with
  | true =>
    rw [hb] at h
    exact need_pos (h _ rfl)
  | false =>
    rw [hb] at h
    exact need_pos (h _ rfl)
theorem spH_ok : ∀ f s, spH f = some s → s.ok Try.prog f := spAdd_ok fnd34 (spAdd_ok srt38 noSp_ok)
theorem spG_ok : ∀ f s, spG f = some s → s.ok Try.prog f := spAdd_ok fnd26 noSp_ok
theorem uni_drop {l es : List (List DV)} {i : Nat} (hi : i < es.length) : uniF l i (es.drop i) = ((fI l (idO es[i]) == ((i : Nat) : Int)) && uniF l (i + 1) (es.drop (i + 1))) := by
  rw [List.drop_eq_getElem_cons hi]
  rfl
theorem loop190 (L n : Nat) {es : List (List DV)} (hz : ∀ e ∈ es, okRow z7 e = true) (hl : es.length ≤ 1000) : ∀ r, (LR.br (uniF es 0 es) (.one (.ex 0) (St.of [(0, .d (.sla false 7 es))] [])) (.one .ret (St.of [(2, .d (.bool false))] [(24, none)]))).val = some r →
    LoopOk (LB tab spH lp L (n+4) h190 c19l0) (S190 (.sla false 7 es) (.sla false 7 es) es.length 0) r := by
  intro r hr
  have key := loop_list (f := LB tab spH lp L (n+4) h190 c19l0) (fun i => S190 (.sla false 7 es) (.sla false 7 es) es.length (i : Nat)) es (fun i => ((LR.br (uniF es i (es.drop i)) (.one (.ex 0) (St.of [(0, .d (.sla false 7 es))] [])) (.one .ret (St.of [(2, .d (.bool false))] [(24, none)]))).val).getD (.nrm, St.of [] []))
    (fun i hi => by
      have hzi := hz es[i] (List.getElem_mem hi)
      have hstep : ∀ k, LB tab spH lp L (n+4) h190 c19l0 (S190 (.sla false 7 es) (.sla false 7 es) es.length (i : Nat)) k = cond (fI es (idO es[i]) == ((i : Nat) : Int)) (k .nrm (S190 (.sla false 7 es) (.sla false 7 es) es.length ((i + 1 : Nat) : Int))) (k .ret (St.of [(2, .d (.bool false))] [(24, none)])) := by
        intro k
        rw [s190, lt_dec hi, cond_true, look_nat hi, hzi, cond_true, wrap_succ (by omega)]
        refine (need_pos ⟨_, _, rfl, Sl.sla _ _ _, hz, hl⟩).trans ?_
        unfold idO bne
        cases (fI es (cellA es[i] 0).toI == ((i : Nat) : Int)) <;> rfl
      cases hc : (fI es (idO es[i]) == ((i : Nat) : Int)) with
      | false =>
        right
        simp only [uni_drop hi, hc, Bool.false_and, LR.val, cond_false, Option.getD_some]
        exact ⟨by simp, fun k => by rw [hstep, hc]; rfl⟩
      | true =>
        left
        simp only [uni_drop hi, hc, Bool.true_and]
        exact ⟨fun k => by rw [hstep, hc]; rfl, trivial⟩)
    (by
      simp only [List.drop_length, uniF, LR.val, cond_true, Option.getD_some]
      exact ⟨by simp, fun k => by rw [s190, lt_dec_self]; rfl⟩)
  simp only [List.drop_zero, hr, Option.getD_some] at key
  exact key
theorem is19 : isPS.ok Try.prog 19 := fun ds r hD hv => by
  obtain ⟨x, rfl, hx, hz, hl⟩ := hD
  cases hv
  refine EntX.gen1 hx (spec_run (lsp := lp) tab_ok spH_ok 20 (0 + 8) ((t19 20 0 (rowsA x)).trans ?_))
  generalize rowsA x = es at *
  have h := loop190 20 (0 + 4) hz hl
  unfold isP
  have e40 : decide ((es.length : Int) ≤ (40 : Int)) = decide (es.length ≤ 40) := decide_eq_decide.2 (by omega)
  cases hb : uniF es 0 es with
  | true =>
    rw [hb] at h
    refine (need_pos (h _ rfl)).trans ?_
    rw [e40]
    cases decide (es.length ≤ 40) with
    | false => rfl
    | true => exact need_pos ⟨_, rfl, Sl.sla _ _ _, hz, hl⟩
  | false =>
    rw [hb] at h
    exact need_pos (h _ rfl)
theorem loop200 (L n : Nat) {es : List (List DV)} (hz : ∀ e ∈ es, okRow z7 e = true) (hl : es.length ≤ 1000) : ∀ r, (LR.br (uniF es 0 es && sortB es) (.one (.ex 0) (St.of [(0, .d (.sla false 7 es))] [])) (.one .ret (St.of [(2, .d (.bool false))] []))).val = some r →
    LoopOk (LB tab spG lp L (n+4) h200 c20l0) (S200 (.sla false 7 es) 0) r := by
  intro r hr
  have key := loop_list (f := LB tab spG lp L (n+4) h200 c20l0) (fun i => S200 (.sla false 7 es) (i : Nat)) es (fun i => ((LR.br (uniF es i (es.drop i) && sortB (es.drop (i - 1))) (.one (.ex 0) (St.of [(0, .d (.sla false 7 es))] [])) (.one .ret (St.of [(2, .d (.bool false))] []))).val).getD (.nrm, St.of [] []))
    (fun i hi => by
      have hzi := hz es[i] (List.getElem_mem hi)
      have hd : (uniF es i (es.drop i) && sortB (es.drop (i - 1))) = ((fI es (idO es[i]) == ((i : Nat) : Int)) && ((if h : 0 < i then ahB (es[i - 1]'(by omega)) es[i] else true) && (uniF es (i + 1) (es.drop (i + 1)) && sortB (es.drop i)))) := by
        rw [uni_drop hi]
        by_cases h0 : 0 < i
        · rw [dif_pos h0]
          obtain ⟨j, rfl⟩ : ∃ j, i = j + 1 := ⟨i - 1, by omega⟩
          simp only [Nat.add_sub_cancel]
          rw [sort_drop hi]
          cases (fI es (idO es[j + 1]) == ((j + 1 : Nat) : Int)) <;> cases ahB es[j] es[j + 1] <;> cases uniF es (j + 1 + 1) (es.drop (j + 1 + 1)) <;> cases sortB (es.drop (j + 1)) <;> rfl
        · rw [dif_neg h0]
          have : i = 0 := by omega
          subst this
          simp only [Bool.true_and, Nat.zero_sub, Bool.and_assoc]
      have hstep : ∀ k, LB tab spG lp L (n+4) h200 c20l0 (S200 (.sla false 7 es) (i : Nat)) k = cond ((fI es (idO es[i]) == ((i : Nat) : Int)) && (if h : 0 < i then ahB (es[i - 1]'(by omega)) es[i] else true)) (k .nrm (S200 (.sla false 7 es) ((i + 1 : Nat) : Int))) (k .ret (St.of [(2, .d (.bool false))] [])) := by
        intro k
        rw [s200, lt_dec hi, cond_true, look_nat hi, hzi, cond_true, wrap_succ (by omega)]
        refine (need_pos ⟨_, _, rfl, Sl.sla _ _ _, hz, hl⟩).trans ?_
        by_cases h0 : 0 < i
        · have hp : i - 1 < es.length := by omega
          rw [dif_pos h0, decide_eq_true (show ((i : Nat) : Int) > 0 by omega), cond_true, wrap_pred h0 (by omega), decide_eq_true (show (0 : Int) ≤ ((i - 1 : Nat) : Int) by omega), cond_true, Int.toNat_natCast, look_nat hp, hz _ (List.getElem_mem hp), cond_true, look_nat hi, hzi, cond_true]
          have e1 : (cond (decide ((cellA (es[i - 1]'hp) 1).toI < (cellA es[i] 1).toI)) true (cond ((cellA (es[i - 1]'hp) 1).toI == (cellA es[i] 1).toI) (decide ((cellA (es[i - 1]'hp) 4).toI ≤ (cellA es[i] 4).toI)) false)) = ahB (es[i - 1]'hp) es[i] := by
            unfold ahB frm cls
            have : ((cellA (es[i - 1]'hp) 1).toI == (cellA es[i] 1).toI) = decide ((cellA (es[i - 1]'hp) 1).toI = (cellA es[i] 1).toI) := by
              by_cases h : (cellA (es[i - 1]'hp) 1).toI = (cellA es[i] 1).toI
              · rw [decide_eq_true h]; exact beq_iff_eq.2 h
              · rw [decide_eq_false h]; exact beq_eq_false_iff_ne.2 h
            rw [this]
            cases decide ((cellA (es[i - 1]'hp) 1).toI < (cellA es[i] 1).toI) <;> cases decide ((cellA (es[i - 1]'hp) 1).toI = (cellA es[i] 1).toI) <;> rfl
          rw [e1]
          unfold idO bne
          cases (fI es (cellA es[i] 0).toI == ((i : Nat) : Int)) <;> cases ahB (es[i - 1]'hp) es[i] <;> rfl
        · rw [dif_neg h0, decide_eq_false (show ¬ ((i : Nat) : Int) > 0 by omega)]
          unfold idO bne
          cases (fI es (cellA es[i] 0).toI == ((i : Nat) : Int)) <;> rfl
      cases hc : ((fI es (idO es[i]) == ((i : Nat) : Int)) && (if h : 0 < i then ahB (es[i - 1]'(by omega)) es[i] else true)) with
      | false =>
        right
        simp only [hd, ← Bool.and_assoc, hc, Bool.false_and, LR.val, cond_false, Option.getD_some]
        exact ⟨by simp, fun k => by rw [hstep, hc]; rfl⟩
      | true =>
        left
        have hd2 : (uniF es i (es.drop i) && sortB (es.drop (i - 1))) = (uniF es (i + 1) (es.drop (i + 1)) && sortB (es.drop i)) := by
          rw [hd, ← Bool.and_assoc, hc, Bool.true_and]
        simp only [hd2, Nat.add_sub_cancel]
        exact ⟨fun k => by rw [hstep, hc]; rfl, trivial⟩)
    (by
      rw [List.drop_length, sort_last (by omega)]
      simp only [uniF, Bool.and_self, LR.val, cond_true, Option.getD_some]
      exact ⟨by simp, fun k => by rw [s200, lt_dec_self]; rfl⟩)
  simp only [List.drop_zero, Nat.zero_sub, hr, Option.getD_some] at key
  exact key
theorem is20 : isPS.ok Try.prog 20 := fun ds r hD hv => by
  obtain ⟨x, rfl, hx, hz, hl⟩ := hD
  cases hv
  refine EntX.gen1 hx (spec_run (lsp := lp) tab_ok spG_ok 20 (0 + 8) ((t20 20 0 (rowsA x)).trans ?_))
  generalize rowsA x = es at *
  have h := loop200 20 (0 + 4) hz hl
  unfold isP
  have e40 : decide ((es.length : Int) ≤ (40 : Int)) = decide (es.length ≤ 40) := decide_eq_decide.2 (by omega)
  have hc : (uniF es 0 es && (decide (es.length ≤ 40) && sortB es)) = ((uniF es 0 es && sortB es) && decide (es.length ≤ 40)) := by
    cases uniF es 0 es <;> cases sortB es <;> cases decide (es.length ≤ 40) <;> rfl
  rw [hc]
  cases hb : (uniF es 0 es && sortB es) with
  | true =>
    rw [hb] at h
    refine (need_pos (h _ rfl)).trans ?_
    rw [e40, Bool.true_and]
  | false =>
    rw [hb] at h
    exact need_pos (h _ rfl)
end Go.Proofs.Ytngghbloijkfoaa
