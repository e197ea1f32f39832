/- What is known of books, by the runs: how much one may send, at once; what is known by hand; the statement's run. No condition. -/
import Derived.Test.YtakapalpcglfaaaMd
namespace Go.Proofs.Ytakapalpcglfaaa
open Go Go.Proofs Go.RowKit Vm
set_option linter.unusedVariables false
set_option linter.unusedSimpArgs false
noncomputable def spTe : FuncId → Option FSpec := spAdd 21 isS (spAdd 22 ofS (spAdd 23 ofS (spAdd 24 trueS noSp)))
theorem k24 (n : Nat) : FK tab noSp lsp0 30 (n+12) 24 [] =
   (some (DV.bool true)) :=
  (show FK tab noSp lsp0 30 (n+12) 24 [] =
 (some (.bool true)) from by kernel_rfl).trans (by first | rfl | (simp only [decide_true, decide_false, eq_self, and_true, true_and, and_self, cond_true, cond_false, Nat.le_refl, Int.le_refl, Option.getD_some, Option.getD_none, Int.toNat_natCast, List.take_length, List.drop_zero, Nat.zero_add, List.nil_append, List.all_nil, List.append_nil, Bool.true_and, Bool.and_true, rowsA_sla, rowsA_sl, rowsA_nil, minus_zero, nat_le_cast, nat_nonneg, Option.isSome_some, Option.isSome_none, Bool.false_eq_true, false_and, and_false, if_true, if_false, implies_true, Int.toNat_zero, Bool.not_false, Bool.not_true, bne_self_eq_false]; done) | (simp only [decide_true, decide_false, eq_self, and_true, true_and, and_self, cond_true, cond_false, Nat.le_refl, Int.le_refl, Option.getD_some, Option.getD_none, Int.toNat_natCast, List.take_length, List.drop_zero, Nat.zero_add, List.nil_append, List.all_nil, List.append_nil, Bool.true_and, Bool.and_true, rowsA_sla, rowsA_sl, rowsA_nil, minus_zero, nat_le_cast, nat_nonneg, Option.isSome_some, Option.isSome_none, Bool.false_eq_true, false_and, and_false, if_true, if_false, implies_true, Int.toNat_zero, Bool.not_false, Bool.not_true, bne_self_eq_false]; rfl))
theorem t7 (L n : Nat) (ac bs ms qs : List (List DV)) (f t c : Int) : FK tab spTe ld L (n+8) 7 [.agg (bk ac bs ms qs), .int .i64 f, .int .i64 t, .int .i64 c] =
   (need (isS.D [DV.agg [DV.sla false 3 ac, DV.sla false 1 bs, DV.sla false 1 ms, DV.sla false 1 qs]])
 (bif !isBk ac bs ms qs then some (DV.bool true)
 else
 need
 (ofS.D
 [DV.agg [DV.sla false 3 ac, DV.sla false 1 bs, DV.sla false 1 ms, DV.sla false 1 qs], DV.int .i64 f, DV.int .i64 t, DV.int .i64 c])
 (need
 (ofS.D
 [DV.agg [DV.sla false 3 ac, DV.sla false 1 bs, DV.sla false 1 ms, DV.sla false 1 qs], DV.int .i64 f, DV.int .i64 t, DV.int .i64 c])
 (bif ofI ac bs ms qs f t c == ofI ac bs ms qs f t c then need (trueS.D []) (some (DV.bool true)) else some (DV.bool false))))) :=
  (show FK tab spTe ld L (n+8) 7 [.agg (bk ac bs ms qs), .int .i64 f, .int .i64 t, .int .i64 c] =
 (need (FSpec.D (isS) [(.agg [(.sla false 3 ac), (.sla false 1 bs), (.sla false 1 ms), (.sla false 1 qs)])])
 (cond (!isBk ac bs ms qs)
 (some (.bool true))
 (need (FSpec.D (ofS) [(.agg [(.sla false 3 ac), (.sla false 1 bs), (.sla false 1 ms), (.sla false 1 qs)]), (.int .i64 f), (.int .i64 t), (.int .i64 c)])
 (need (FSpec.D (ofS) [(.agg [(.sla false 3 ac), (.sla false 1 bs), (.sla false 1 ms), (.sla false 1 qs)]), (.int .i64 f), (.int .i64 t), (.int .i64 c)])
 (cond (ofI ac bs ms qs f t c == ofI ac bs ms qs f t c)
 (need (FSpec.D (trueS) [])
 (some (.bool true)))
 (some (.bool false))))))) from by kernel_rfl).trans (by first | rfl | (simp only [decide_true, decide_false, eq_self, and_true, true_and, and_self, cond_true, cond_false, Nat.le_refl, Int.le_refl, Option.getD_some, Option.getD_none, Int.toNat_natCast, List.take_length, List.drop_zero, Nat.zero_add, List.nil_append, List.all_nil, List.append_nil, Bool.true_and, Bool.and_true, rowsA_sla, rowsA_sl, rowsA_nil, minus_zero, nat_le_cast, nat_nonneg, Option.isSome_some, Option.isSome_none, Bool.false_eq_true, false_and, and_false, if_true, if_false, implies_true, Int.toNat_zero, Bool.not_false, Bool.not_true, bne_self_eq_false]; done) | (simp only [decide_true, decide_false, eq_self, and_true, true_and, and_self, cond_true, cond_false, Nat.le_refl, Int.le_refl, Option.getD_some, Option.getD_none, Int.toNat_natCast, List.take_length, List.drop_zero, Nat.zero_add, List.nil_append, List.all_nil, List.append_nil, Bool.true_and, Bool.and_true, rowsA_sla, rowsA_sl, rowsA_nil, minus_zero, nat_le_cast, nat_nonneg, Option.isSome_some, Option.isSome_none, Bool.false_eq_true, false_and, and_false, if_true, if_false, implies_true, Int.toNat_zero, Bool.not_false, Bool.not_true, bne_self_eq_false]; rfl))
theorem spMo_ok : ∀ f s, spMo f = some s → s.ok Try.prog f := spAdd_ok net33 (spAdd_ok room11 (spAdd_ok left32 noSp_ok))
theorem nat_dec (f : Nat) : decide ((0 : Int) ≤ ((f : Nat) : Int)) = true := decide_eq_true (by omega)
theorem lef_min {a b c : Int} (hw : IntKind.i64.wrap (b - a) = b - a) : lefI a b c = cond (b != -1) (min c (b - a)) c := by
  unfold lefI
  rw [hw]
  cases h : (b == -1) with
  | true => rw [show (b != -1) = false by unfold bne; rw [h]; rfl]; rfl
  | false =>
    rw [show (b != -1) = true by unfold bne; rw [h]; rfl]
    simp only [cond_true, cond_false]
    split <;> omega
theorem most22 : ofS.ok Try.prog 22 := fun ds r hD hv => by
  obtain ⟨ac, bs, ms, qs, f, t, c, rfl, hB⟩ := hD
  cases hv
  refine spec_run (lsp := ld) tab_ok spMo_ok 20 (0 + 8) ((t22o 20 0 ac bs ms qs f t c).trans ?_)
  show cond (!mayB ac.length f t 1 c) _ _ = _
  unfold ofI fitB
  cases hm : mayB ac.length f t 1 c with
  | false => rfl
  | true =>
    obtain ⟨m1, m2, m3, m4, m5, m6, m7, m8, m9⟩ := mayB_iff.1 hm
    obtain ⟨f', rfl⟩ : ∃ f' : Nat, f = (f' : Int) := ⟨f.toNat, by omega⟩
    obtain ⟨t', rfl⟩ : ∃ t' : Nat, t = (t' : Int) := ⟨t.toNat, by omega⟩
    have hf : f' < ac.length := by omega
    have ht : t' < ac.length := by omega
    have ei : f' < bs.length := by rw [hB.lb]; exact hf
    have eq : f' < qs.length := by rw [hB.lq]; exact hf
    have em : f' < ms.length := by rw [hB.lm]; exact hf
    have eb : t' < (rw bs f').length := by rw [hB.rb f' hf]; exact ht
    have eqq : t' < (rw qs f').length := by rw [hB.rq f' hf]; exact ht
    have hca := hB.ca f' hf
    have hca' := hca
    unfold isA at hca'
    obtain ⟨c1, c2, c3, c4, c5, c6⟩ := hca'
    obtain ⟨hnD, hnb⟩ := hB.net hf
    have hq := hB.cq f' t' hf ht
    have hbb := hB.cb f' t' hf ht
    have hmm := hB.cm f' hf
    have look3 := fun K => look1 hf hB.t.a K
    have lookm := fun K => look1 em (fun e he => (hB.t.m e he).1) K
    simp only [Int.toNat_natCast, nat_dec, cond_true, look3, lookm, look2 hB.t.b ei eb, look2 hB.t.q eq eqq, Bool.not_true, cond_false]
    have e0 : (cellA (ac[f']?.getD []) 0).toI = aci ac f' 0 := rfl
    have e1 : (cellA (ac[f']?.getD []) 1).toI = aci ac f' 1 := rfl
    have e2 : (cellA (ac[f']?.getD []) 2).toI = aci ac f' 2 := rfl
    have e3 : (cellA (ms[f']?.getD []) 0).toI = at1 ms f' := rfl
    have e4 : (cellA ((rw bs f')[t']?.getD []) 0).toI = at2 bs f' t' := rfl
    have e5 : (cellA ((rw qs f')[t']?.getD []) 0).toI = at2 qs f' t' := rfl
    simp only [e0, e1, e2, e3, e4, e5]
    have hbc : IntKind.i64.wrap (aci ac f' 0 + aci ac f' 1) = bcI ac f' := wrap_fits (by omega) (by omega)
    have hro : roomI (aci ac f' 0) (aci ac f' 1) (aci ac f' 2) c = cond (c == 3) (bcI ac f' - aci ac f' 2) (bcI ac f') := rfl
    have l1 := fun x => lef_min (a := at2 qs f' t') (b := at2 bs f' t') (c := x) (wrap_fits (by omega) (by omega))
    have l2 := fun x => lef_min (a := sumR (rw qs f')) (b := at1 ms f') (c := x) (wrap_fits (by omega) (by omega))
    rw [hbc, hro]
    refine (need_pos ⟨_, _, _, _, rfl, hca⟩).trans ((need_pos ⟨_, _, _, rfl⟩).trans ((need_pos hnD).trans ((need_pos ⟨_, _, _, rfl⟩).trans ?_)))
    simp only [l1, l2, Bool.true_and, sh_top hB hf]
    have hres : 0 ≤ aci ac f' 2 := c5
    unfold topT topU
    generalize at2 bs f' t' = bil at *
    generalize at2 qs f' t' = pos at *
    generalize bcI ac f' = bc at *
    generalize aci ac f' 2 = res at *
    generalize at1 ms f' = mul at *
    generalize sumR (rw qs f') = net at *
    congr 2
    by_cases hc3 : (c == 3) = true
    · rw [hc3]
      cases (bil != -1) <;> cases (mul != -1) <;> simp only [cond_true, cond_false] <;>
      · by_cases hx : (1 : Int) ≤ 0
        · omega
        · rw [← decide_not]
          simp only [cond_eq_ite, decide_eq_true_eq]
          repeat' split
          all_goals omega
    · rw [show (c == 3) = false by simpa using hc3]
      cases (bil != -1) <;> cases (mul != -1) <;> simp only [cond_true, cond_false] <;>
      · rw [← decide_not]
        simp only [cond_eq_ite, decide_eq_true_eq]
        repeat' split
        all_goals omega
theorem known24 : trueS.ok Try.prog 24 := fun ds r hD hv => by
  cases hD
  cases hv
  exact spec_run (lsp := lsp0) tab_ok noSp_ok 30 (0 + 12) (k24 0)
theorem spTe_ok : ∀ f s, spTe f = some s → s.ok Try.prog f := spAdd_ok is21 (spAdd_ok most22 (spAdd_ok of23 (spAdd_ok known24 noSp_ok)))
end Go.Proofs.Ytakapalpcglfaaa
