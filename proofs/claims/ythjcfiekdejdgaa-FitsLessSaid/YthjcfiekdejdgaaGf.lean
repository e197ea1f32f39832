/- What is known of the search in payments, by the closures: the proofs. No condition. -/
import Derived.Test.YthjcfiekdejdgaaGe
namespace Go.Proofs.Ythjcfiekdejdgaa
open Go Go.Proofs Go.RowKit Vm
set_option linter.unusedVariables false
set_option linter.unusedSimpArgs false
theorem t30 (n : Nat) (e : List DV) (i : Int) : FK tab noSp lsp0 20 (n+12) 30 [pv e, .rptr [.int .i64 i] 0] =
   (some (DV.bool ((cellA e 1).toI == i))) :=
  (show FK tab noSp lsp0 20 (n+12) 30 [pv e, .rptr [.int .i64 i] 0] =
 (some (.bool ((cellA e 1).toI == i))) from by kernel_rfl).trans (by first | rfl | (simp only [decide_true, decide_false, eq_self, and_true, true_and, and_self, cond_true, cond_false, Nat.le_refl, Int.le_refl, Option.getD_some, Option.getD_none, Int.toNat_natCast, List.take_length, List.drop_zero, Nat.zero_add, List.nil_append, List.all_nil, List.append_nil, Bool.true_and, Bool.and_true, rowsA_sla, rowsA_sl, rowsA_nil, minus_zero, nat_le_cast, nat_nonneg, Option.isSome_some, Option.isSome_none, Bool.false_eq_true, false_and, and_false, if_true, if_false, implies_true, Int.toNat_zero, Bool.not_false, Bool.not_true, bne_self_eq_false]; done) | (simp only [decide_true, decide_false, eq_self, and_true, true_and, and_self, cond_true, cond_false, Nat.le_refl, Int.le_refl, Option.getD_some, Option.getD_none, Int.toNat_natCast, List.take_length, List.drop_zero, Nat.zero_add, List.nil_append, List.all_nil, List.append_nil, Bool.true_and, Bool.and_true, rowsA_sla, rowsA_sl, rowsA_nil, minus_zero, nat_le_cast, nat_nonneg, Option.isSome_some, Option.isSome_none, Bool.false_eq_true, false_and, and_false, if_true, if_false, implies_true, Int.toNat_zero, Bool.not_false, Bool.not_true, bne_self_eq_false]; rfl))
theorem t27 (n : Nat) (e : List DV) (ac bs ms qs : List (List DV)) : FK tab noSp lsp0 20 (n+12) 27 [pv e, .rptr (bk ac bs ms qs) 0] =
   (some
 (DV.bool
 !bif
 bif
 bif
 bif
 bif
 bif
 bif bif decide ((cellA e 1).toI ≥ (0 : Int)) then decide ((cellA e 1).toI < (↑ac.length : Int)) else false then
 decide ((cellA e 2).toI ≥ (0 : Int))
 else false then
 decide ((cellA e 2).toI < (↑ac.length : Int))
 else false then
 (cellA e 1).toI != (cellA e 2).toI
 else false then
 decide ((cellA e 3).toI ≥ (1 : Int))
 else false then
 decide ((cellA e 3).toI ≤ (1099511627776 : Int))
 else false then
 decide ((cellA e 4).toI ≥ (1 : Int))
 else false then
 decide ((cellA e 4).toI ≤ (3 : Int))
 else false)) :=
  (show FK tab noSp lsp0 20 (n+12) 27 [pv e, .rptr (bk ac bs ms qs) 0] =
 (some (.bool (!bif bif bif bif bif bif bif bif decide ((cellA e 1).toI ≥ (0 : Int)) then decide ((cellA e 1).toI < (↑ac.length : Int)) else false then decide ((cellA e 2).toI ≥ (0 : Int)) else false then decide ((cellA e 2).toI < (↑ac.length : Int)) else false then (cellA e 1).toI != (cellA e 2).toI else false then decide ((cellA e 3).toI ≥ (1 : Int)) else false then decide ((cellA e 3).toI ≤ (1099511627776 : Int)) else false then decide ((cellA e 4).toI ≥ (1 : Int)) else false then decide ((cellA e 4).toI ≤ (3 : Int)) else false))) from by kernel_rfl).trans (by first | rfl | (simp only [decide_true, decide_false, eq_self, and_true, true_and, and_self, cond_true, cond_false, Nat.le_refl, Int.le_refl, Option.getD_some, Option.getD_none, Int.toNat_natCast, List.take_length, List.drop_zero, Nat.zero_add, List.nil_append, List.all_nil, List.append_nil, Bool.true_and, Bool.and_true, rowsA_sla, rowsA_sl, rowsA_nil, minus_zero, nat_le_cast, nat_nonneg, Option.isSome_some, Option.isSome_none, Bool.false_eq_true, false_and, and_false, if_true, if_false, implies_true, Int.toNat_zero, Bool.not_false, Bool.not_true, bne_self_eq_false]; done) | (simp only [decide_true, decide_false, eq_self, and_true, true_and, and_self, cond_true, cond_false, Nat.le_refl, Int.le_refl, Option.getD_some, Option.getD_none, Int.toNat_natCast, List.take_length, List.drop_zero, Nat.zero_add, List.nil_append, List.all_nil, List.append_nil, Bool.true_and, Bool.and_true, rowsA_sla, rowsA_sl, rowsA_nil, minus_zero, nat_le_cast, nat_nonneg, Option.isSome_some, Option.isSome_none, Bool.false_eq_true, false_and, and_false, if_true, if_false, implies_true, Int.toNat_zero, Bool.not_false, Bool.not_true, bne_self_eq_false]; rfl))
theorem t40 (n : Nat) (ac bs ms qs X Y Q : List (List DV)) (b0 b1 b2 ro : Int) (e : List DV) (i : Nat) : FK tab noSp lsp0 20 (n+12) 40 [pv e, .rptr [.int .i64 ((i : Nat) : Int)] 0, .rptr [.int .i64 b0, .int .i64 b1, .int .i64 b2] 0, .rptr [.sl .ro 1 X, .sl .ro 1 Y, .sl .ro 1 Q] 0, .rptr [.int .i64 ro] 0, .rptr (bk ac bs ms qs) 0] =
   (bif (cellA e 1).toI != (↑i : Int) then some (DV.bool false)
 else
 lookK Y[i]? fun (e1 : List DV) =>
 bif okRow [DV.int .i64 0] e1 then
 bif
 bif (cellA e 4).toI == (3 : Int) then
 decide
 (ro < if (0 : Int) > IntKind.i64.wrap (b2 - (cellA e1 0).toI) then (0 : Int) else IntKind.i64.wrap (b2 - (cellA e1 0).toI))
 else false then
 some (DV.bool true)
 else
 lookK qs[i]? fun (e5 : List DV) =>
 bif okRow [DV.nilsl] e5 then
 bif decide ((1 : Nat) = (cellA e5 0).slZ) then
 bif decide ((0 : Int) ≤ (cellA e 2).toI) then
 lookK (cellA e5 0).slR[(cellA e 2).toI.toNat]? fun (e10 : List DV) =>
 bif okRow [DV.int .i64 0] e10 then
 lookK Q[i]? fun (e13 : List DV) =>
 bif okRow [DV.nilsl] e13 then
 bif decide ((1 : Nat) = (cellA e13 0).slZ) then
 bif decide ((0 : Int) ≤ (cellA e 2).toI) then
 lookK (cellA e13 0).slR[(cellA e 2).toI.toNat]? fun (e18 : List DV) =>
 bif okRow [DV.int .i64 0] e18 then
 lookK bs[i]? fun (e21 : List DV) =>
 bif okRow [DV.nilsl] e21 then
 bif decide ((1 : Nat) = (cellA e21 0).slZ) then
 bif decide ((0 : Int) ≤ (cellA e 2).toI) then
 lookK (cellA e21 0).slR[(cellA e 2).toI.toNat]? fun (e26 : List DV) =>
 bif okRow [DV.int .i64 0] e26 then
 some
 (DV.bool
 (bif (cellA e26 0).toI != (-1 : Int) then
 decide (IntKind.i64.wrap ((cellA e10 0).toI + (cellA e18 0).toI) > (cellA e26 0).toI)
 else false))
 else none
 else none
 else none
 else none
 else none
 else none
 else none
 else none
 else none
 else none
 else none
 else none
 else none) :=
  (show FK tab noSp lsp0 20 (n+12) 40 [pv e, .rptr [.int .i64 ((i : Nat) : Int)] 0, .rptr [.int .i64 b0, .int .i64 b1, .int .i64 b2] 0, .rptr [.sl .ro 1 X, .sl .ro 1 Y, .sl .ro 1 Q] 0, .rptr [.int .i64 ro] 0, .rptr (bk ac bs ms qs) 0] =
 (cond ((cellA e 1).toI != (↑i : Int))
 (some (.bool false))
 (lookK (Y[(↑i : Int).toNat]?)
 fun e1 =>
 (cond (okRow [DV.int .i64 0] e1)
 (cond (bif (cellA e 4).toI == (3 : Int) then decide (ro < if (0 : Int) > IntKind.i64.wrap (b2 - (cellA e1 0).toI) then (0 : Int) else IntKind.i64.wrap (b2 - (cellA e1 0).toI)) else false)
 (some (.bool true))
 (lookK (qs[(↑i : Int).toNat]?)
 fun e5 =>
 (cond (okRow [DV.nilsl] e5)
 (cond (decide ((1 : Nat) = (cellA e5 0).slZ))
 (cond (decide ((0 : Int) ≤ (cellA e 2).toI))
 (lookK ((cellA e5 0).slR[(cellA e 2).toI.toNat]?)
 fun e10 =>
 (cond (okRow [DV.int .i64 0] e10)
 (lookK (Q[(↑i : Int).toNat]?)
 fun e13 =>
 (cond (okRow [DV.nilsl] e13)
 (cond (decide ((1 : Nat) = (cellA e13 0).slZ))
 (cond (decide ((0 : Int) ≤ (cellA e 2).toI))
 (lookK ((cellA e13 0).slR[(cellA e 2).toI.toNat]?)
 fun e18 =>
 (cond (okRow [DV.int .i64 0] e18)
 (lookK (bs[(↑i : Int).toNat]?)
 fun e21 =>
 (cond (okRow [DV.nilsl] e21)
 (cond (decide ((1 : Nat) = (cellA e21 0).slZ))
 (cond (decide ((0 : Int) ≤ (cellA e 2).toI))
 (lookK ((cellA e21 0).slR[(cellA e 2).toI.toNat]?)
 fun e26 =>
 (cond (okRow [DV.int .i64 0] e26)
 (some (.bool (bif (cellA e26 0).toI != (-1 : Int) then decide (IntKind.i64.wrap ((cellA e10 0).toI + (cellA e18 0).toI) > (cellA e26 0).toI) else false)))
 none))
 none)
 none)
 none))
 none))
 none)
 none)
 none))
 none))
 none)
 none)
 none)))
 none))) from by kernel_rfl).trans (by first | rfl | (simp only [decide_true, decide_false, eq_self, and_true, true_and, and_self, cond_true, cond_false, Nat.le_refl, Int.le_refl, Option.getD_some, Option.getD_none, Int.toNat_natCast, List.take_length, List.drop_zero, Nat.zero_add, List.nil_append, List.all_nil, List.append_nil, Bool.true_and, Bool.and_true, rowsA_sla, rowsA_sl, rowsA_nil, minus_zero, nat_le_cast, nat_nonneg, Option.isSome_some, Option.isSome_none, Bool.false_eq_true, false_and, and_false, if_true, if_false, implies_true, Int.toNat_zero, Bool.not_false, Bool.not_true, bne_self_eq_false]; done) | (simp only [decide_true, decide_false, eq_self, and_true, true_and, and_self, cond_true, cond_false, Nat.le_refl, Int.le_refl, Option.getD_some, Option.getD_none, Int.toNat_natCast, List.take_length, List.drop_zero, Nat.zero_add, List.nil_append, List.all_nil, List.append_nil, Bool.true_and, Bool.and_true, rowsA_sla, rowsA_sl, rowsA_nil, minus_zero, nat_le_cast, nat_nonneg, Option.isSome_some, Option.isSome_none, Bool.false_eq_true, false_and, and_false, if_true, if_false, implies_true, Int.toNat_zero, Bool.not_false, Bool.not_true, bne_self_eq_false]; rfl))
theorem nat_dec (f : Nat) : decide ((0 : Int) ≤ ((f : Nat) : Int)) = true := decide_eq_true (by omega)
theorem t28 (n : Nat) (l : List (List DV)) (g : FuncId) (caps : List DV) : FK tab spCl lE 20 (n+12) 28 [.sla false 7 l, .func g caps] =
  cond (l.any (clB (.func g caps))) (need (LoopOk (LB tab spCl lE 20 (n+11) h350 c35l0) (S350 l (.func g caps) 0) (.ret, St.of [(4, .d (.int .i64 (idxF (clB (.func g caps)) l 0)))] [])) (some (.bool (decide (idxF (clB (.func g caps)) l 0 ≥ (0 : Int))))))
    (need (LoopOk (LB tab spCl lE 20 (n+11) h350 c35l0) (S350 l (.func g caps) 0) (.ex 0, St.of [] [])) (some (.bool false))) := by kernel_rfl
theorem max_kept {c m : Int} : (if (0 : Int) > c - m then 0 else c - m) = keptI c m := by
  unfold keptI
  by_cases h : m ≥ c
  · rw [decide_eq_true h]
    simp only [cond_true]
    split <;> omega
  · rw [decide_eq_false h]
    simp only [cond_false]
    split <;> omega
theorem cl30 : cl30S.ok Try.prog 30 := fun ds r hD hv => by
  obtain ⟨e, i, rfl⟩ := hD
  cases hv
  exact spec_run (lsp := lsp0) tab_ok noSp_ok 20 (0 + 12) (t30 0 e i)
theorem cl27 : cl27S.ok Try.prog 27 := fun ds r hD hv => by
  obtain ⟨e, ac, bs, ms, qs, rfl⟩ := hD
  cases hv
  exact spec_run (lsp := lsp0) tab_ok noSp_ok 20 (0 + 12) (t27 0 e ac bs ms qs)
theorem at1_cells {n : Nat} (g : Nat → Int) {i : Nat} (h : i < n) : at1 (cells n g) i = g i := by
  unfold at1
  rw [cells_at g h]
  rfl
theorem Q0_sq (n : Nat) (l : List (List DV)) : Q0 n l = sq n fun f t => sumL (dQ f t) l := rfl
theorem cQ_at {n : Nat} (l : List (List DV)) {i : Nat} (h : i < n) : (cQ n l)[i]? = some [.sla false 1 (cells n fun t => sumL (dQ i t) l)] := by
  unfold cQ
  rw [List.getElem?_map, Q0_sq, sq_at _ h]
  rfl
theorem rw_cQ {n : Nat} (l : List (List DV)) {i : Nat} (h : i < n) : rw (cQ n l) i = cells n fun t => sumL (dQ i t) l := by
  unfold rw
  rw [cQ_at l h]
  rfl
theorem at2_cQ {n : Nat} (l : List (List DV)) {i t : Nat} (h : i < n) (ht : t < n) : at2 (cQ n l) i t = sumL (dQ i t) l := by
  unfold at2
  rw [rw_cQ l h, cells_at _ ht]
  rfl
theorem po_bounds {n : Nat} {l : List (List DV)} (hl : l.length ≤ 1000) (hp : ∀ e ∈ l, PO n e) (φ : List DV → Int) (hφ : ∀ e, PO n e → -1099511627776 ≤ φ e ∧ φ e ≤ 1099511627776) : -1099511627776000 ≤ sumL φ l ∧ sumL φ l ≤ 1099511627776000 := by
  have := sumL_bound (l := l) (φ := φ) (B := 1099511627776) fun e he => hφ e (hp e he)
  omega
theorem po_bM {n : Nat} {l : List (List DV)} (hl : l.length ≤ 1000) (hp : ∀ e ∈ l, PO n e) (j : Nat) : -1099511627776000 ≤ sumL (dM j) l ∧ sumL (dM j) l ≤ 1099511627776000 := po_bounds hl hp _ fun e he => he.dM j
theorem po_bQ {n : Nat} {l : List (List DV)} (hl : l.length ≤ 1000) (hp : ∀ e ∈ l, PO n e) (j k : Nat) : -1099511627776000 ≤ sumL (dQ j k) l ∧ sumL (dQ j k) l ≤ 1099511627776000 := po_bounds hl hp _ fun e he => he.dQ j k
theorem sumL_nonneg {φ : List DV → Int} : ∀ {l : List (List DV)}, (∀ e ∈ l, 0 ≤ φ e) → 0 ≤ sumL φ l
  | [], _ => by simp [sumL]
  | e :: l, h => by
    have h1 := h e (by simp)
    have h2 := sumL_nonneg fun r hr => h r (List.mem_cons.2 (.inr hr))
    simp only [sumL]
    omega
theorem po_bS {n : Nat} {l : List (List DV)} (hl : l.length ≤ 1000) (hp : ∀ e ∈ l, PO n e) (j : Nat) : 0 ≤ sumL (dS j) l ∧ sumL (dS j) l ≤ 1099511627776000 :=
  ⟨sumL_nonneg fun e he => ((hp e he).dS j).1, (po_bounds hl hp _ fun e he => by have := he.dS j; omega).2⟩
theorem cl40 : cl40S.ok Try.prog 40 := fun ds r hD hv => by
  obtain ⟨e, ac, bs, ms, qs, l, i, b0, b1, b2, ro, rfl, hB, hi, hA, hP, hl, hp⟩ := hD
  cases hv
  refine spec_run (lsp := lsp0) tab_ok noSp_ok 20 (0 + 12) ((t40 0 ac bs ms qs (X0 ac.length l) (Y0 ac.length l) (cQ ac.length l) b0 b1 b2 ro e i).trans ?_)
  unfold eC
  rw [Int.toNat_natCast]
  show cond (pF e != (i : Int)) _ _ = some (DV.bool (pF e == (i : Int) && ((pC e == 3 && decide (ro < keptI b2 (at1 (Y0 ac.length l) i))) || (at2 bs i (pT e).toNat != -1 && decide (at2 qs i (pT e).toNat + at2 (cQ ac.length l) i (pT e).toNat > at2 bs i (pT e).toNat)))))
  cases hf : (pF e == (i : Int)) with
  | false =>
    rw [show (pF e != (i : Int)) = true by simp only [bne, hf]; rfl]
    rfl
  | true =>
    rw [show (pF e != (i : Int)) = false by simp only [bne, hf]; rfl, cond_false, Bool.true_and]
    obtain ⟨t, ht⟩ : ∃ t : Nat, pT e = (t : Nat) := ⟨(pT e).toNat, by have := hP.t0; omega⟩
    have htn : t < ac.length := by have := hP.t1; omega
    have eb : i < bs.length := by rw [hB.lb]; exact hi
    have eq : i < qs.length := by rw [hB.lq]; exact hi
    have ebt : t < (rw bs i).length := by rw [hB.rb i hi]; exact htn
    have eqt : t < (rw qs i).length := by rw [hB.rq i hi]; exact htn
    have bS := po_bS hl hp i
    have bQ := po_bQ hl hp i t
    have hq := hB.cq i t hi htn
    obtain ⟨a1, a2, a3, a4, a5, a6⟩ := hA
    rw [show Y0 ac.length l = cells ac.length fun j => sumL (dS j) l from rfl, cells_at _ hi, at1_cells _ hi]
    rw [lookK_some, show okRow [DV.int .i64 0] [DV.int .i64 (sumL (dS i) l)] = true from rfl, cond_true]
    rw [show (cellA [DV.int .i64 (sumL (dS i) l)] 0).toI = sumL (dS i) l from rfl, wrap_fits (n := b2 - sumL (dS i) l) (by omega) (by omega), max_kept]
    rw [show (cellA e 2).toI = ((t : Nat) : Int) from ht, ht, Int.toNat_natCast, at2_cQ l hi htn]
    show cond (bif pC e == 3 then decide (ro < keptI b2 (sumL (dS i) l)) else false) _ _ = _
    cases hc : (bif pC e == 3 then decide (ro < keptI b2 (sumL (dS i) l)) else false) with
    | true =>
      rw [show (pC e == 3 && decide (ro < keptI b2 (sumL (dS i) l))) = true from by rw [← hc]; cases (pC e == 3) <;> rfl]
      rfl
    | false =>
      rw [show (pC e == 3 && decide (ro < keptI b2 (sumL (dS i) l))) = false from by rw [← hc]; cases (pC e == 3) <;> rfl, cond_false, Bool.false_or]
      simp only [nat_dec, cond_true, decide_eq_true (show (0 : Int) ≤ ((t : Nat) : Int) by omega), look2 hB.t.b eb ebt, look2 hB.t.q eq eqt, cQ_at l hi, lookK_some, show okRow [DV.nilsl] [DV.sla false 1 (cells ac.length fun t => sumL (dQ i t) l)] = true from rfl, show (cellA [DV.sla false 1 (cells ac.length fun t => sumL (dQ i t) l)] 0).slZ = 1 from rfl, show (cellA [DV.sla false 1 (cells ac.length fun t => sumL (dQ i t) l)] 0).slR = (cells ac.length fun t => sumL (dQ i t) l) from rfl, decide_true, cells_at _ htn, show okRow [DV.int .i64 0] [DV.int .i64 (sumL (dQ i t) l)] = true from rfl]
      rw [show (cellA [DV.int .i64 (sumL (dQ i t) l)] 0).toI = sumL (dQ i t) l from rfl]
      show some (DV.bool (bif at2 bs i t != -1 then decide (IntKind.i64.wrap (at2 qs i t + sumL (dQ i t) l) > at2 bs i t) else false)) = _
      rw [wrap_fits (n := at2 qs i t + sumL (dQ i t) l) (by omega) (by omega)]
      cases (at2 bs i t != -1) <;> rfl
theorem spCl_ok : ∀ f s, spCl f = some s → s.ok Try.prog f := spAdd_ok cl30 (spAdd_ok cl27 (spAdd_ok cl40 noSp_ok))
theorem idxF_any {φ : List DV → Bool} : ∀ {l : List (List DV)} {i : Nat}, l.any φ = true → 0 ≤ idxF φ l i
  | [], _, h => by simp at h
  | e :: l, i, h => by
    unfold idxF
    cases he : φ e with
    | true => exact Int.natCast_nonneg i
    | false =>
      rw [cond_false]
      refine idxF_any ?_
      rw [List.any_cons, he, Bool.false_or] at h
      exact h
theorem loop350 {L n : Nat} {l : List (List DV)} {c : DV} (hl : l.length ≤ 1000000)
    (hs : ∀ (i : Nat) (hi : i < l.length) (k : Kont), LB tab spCl lE L (n+4) h350 c35l0 (S350 l c i) k = cond (clB c l[i]) (k .ret (St.of [(4, .d (.int .i64 i))] [])) (k .nrm (S350 l c ((i + 1 : Nat) : Int))))
    (he : ∀ k : Kont, LB tab spCl lE L (n+4) h350 c35l0 (S350 l c (l.length : Nat)) k = k (.ex 0) (St.of [] [])) :
    LoopOk (LB tab spCl lE L (n+4) h350 c35l0) (S350 l c 0) (cond (l.any (clB c)) (.ret, St.of [(4, .d (.int .i64 (idxF (clB c) l 0)))] []) (.ex 0, St.of [] [])) := by
  have hR : ∀ i, i ≤ l.length → LoopOk (LB tab spCl lE L (n+4) h350 c35l0) (S350 l c (i : Nat)) (cond ((l.drop i).any (clB c)) (.ret, St.of [(4, .d (.int .i64 (idxF (clB c) (l.drop i) i)))] []) (.ex 0, St.of [] [])) := by
    refine loop_rounds (fun i : Nat => S350 l c (i : Nat)) (fun i => cond ((l.drop i).any (clB c)) (.ret, St.of [(4, .d (.int .i64 (idxF (clB c) (l.drop i) i)))] []) (.ex 0, St.of [] [])) l.length (fun i hi => ?_) ?_
    · have hx : idxF (clB c) (l[i] :: l.drop (i + 1)) i = cond (clB c l[i]) (i : Int) (idxF (clB c) (l.drop (i + 1)) (i + 1)) := rfl
      rw [List.drop_eq_getElem_cons hi, List.any_cons, hx]
      cases h : clB c l[i] with
      | true =>
        right
        rw [Bool.true_or, cond_true, cond_true]
        exact ⟨by simp, fun k => by rw [hs i hi, h, cond_true]⟩
      | false =>
        left
        rw [Bool.false_or, cond_false]
        exact ⟨fun k => by rw [hs i hi, h, cond_false], rfl⟩
    · rw [List.drop_length]
      exact ⟨by simp, fun k => he k⟩
  exact hR 0 (Nat.zero_le _)
/-- closures that are known -/
inductive ClD (l : List (List DV)) : DV → Prop
  | a (i : Int) : ClD l (k30 i)
  | b (ac bs ms qs : List (List DV)) : ClD l (k27 (bk ac bs ms qs))
  | c (ac bs ms qs l' : List (List DV)) (i : Nat) (b0 b1 b2 ro : Int) (hB : BK ac bs ms qs) (hi : i < ac.length) (hA : isA b0 b1 b2) (hp : ∀ e ∈ l, PO ac.length e) (hl' : l'.length ≤ 1000) (hp' : ∀ e ∈ l', PO ac.length e) : ClD l (.func 40 (C40 (bk ac bs ms qs) ac.length l' ((i : Nat) : Int) b0 b1 b2 ro))
theorem cl_loop {L n : Nat} {l : List (List DV)} {c : DV} (hl : l.length ≤ 1000000) (hz : ∀ e ∈ l, okRow z7 e = true) (hc : ClD l c) :
    LoopOk (LB tab spCl lE L (n+4) h350 c35l0) (S350 l c 0) (cond (l.any (clB c)) (.ret, St.of [(4, .d (.int .i64 (idxF (clB c) l 0)))] []) (.ex 0, St.of [] [])) := by
  cases hc with
  | a x =>
    refine loop350 hl (fun i hi k => ?_) fun k => ?_
    · rw [s350_30, lt_dec hi, cond_true, look_at hi, hz _ (List.getElem_mem hi), cond_true, wrap_succ (by omega)]
      exact need_pos ⟨_, _, rfl⟩
    · rw [s350_30, lt_dec_self, cond_false]
  | b ac bs ms qs =>
    refine loop350 hl (fun i hi k => ?_) fun k => ?_
    · rw [s350_27, lt_dec hi, cond_true, look_at hi, hz _ (List.getElem_mem hi), cond_true, wrap_succ (by omega)]
      exact need_pos ⟨_, _, _, _, _, rfl⟩
    · rw [s350_27, lt_dec_self, cond_false]
  | c ac bs ms qs l' x b0 b1 b2 ro hB hx hA hp hl' hp' =>
    refine loop350 hl (fun i hi k => ?_) fun k => ?_
    · rw [s350_40, lt_dec hi, cond_true, look_at hi, hz _ (List.getElem_mem hi), cond_true, wrap_succ (by omega)]
      exact need_pos ⟨_, _, _, _, _, _, _, _, _, _, _, rfl, hB, hx, hA, hp _ (List.getElem_mem hi), hl', hp'⟩
    · rw [s350_40, lt_dec_self, cond_false]
def conS : FSpec where
  D ds := ∃ x g caps, ds = [x, .func g caps] ∧ Sl 7 x ∧ (rowsA x).length ≤ 1000000 ∧ (∀ e ∈ rowsA x, okRow z7 e = true) ∧ ClD (rowsA x) (.func g caps)
  val ds := match ds with | [x, c] => some (.bool ((rowsA x).any (clB c))) | _ => none
theorem con28 : conS.ok Try.prog 28 := fun ds r hD hv => by
  obtain ⟨x, g, caps, rfl, hx, hl, hz, hc⟩ := hD
  cases hv
  refine EntX.gen1 hx ?_
  refine spec_run (lsp := lE) tab_ok spCl_ok 20 (0 + 12) ((t28 0 (rowsA x) g caps).trans ?_)
  have h := cl_loop (L := 20) (n := 0 + 7) hl hz hc
  cases ha : (rowsA x).any (clB (.func g caps)) with
  | true =>
    rw [ha] at h
    rw [cond_true]
    refine (need_pos h).trans ?_
    rw [decide_eq_true (idxF_any ha)]
  | false =>
    rw [ha] at h
    rw [cond_false]
    exact need_pos h
end Go.Proofs.Ythjcfiekdejdgaa
