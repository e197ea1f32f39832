/- What is known of the pool's functions, by their runs: what is laid is worth. No condition. -/
import Derived.Test.YtianifckopijjaaPd
namespace Go.Proofs.Ytianifckopijjaa
open Go Go.Proofs Go.RowKit Vm
set_option linter.unusedVariables false
set_option linter.unusedSimpArgs false
abbrev z2 : List DV := [.int .i64 0, .int .i64 0]
def V3 (es p h : List (List DV)) : Prop := (∀ e ∈ es, okRow z2 e = true ∧ is64 (cut e)) ∧ (∀ e ∈ p, okRow z1 e = true ∧ is64 (cel e)) ∧ (∀ e ∈ h, okRow z1 e = true ∧ is64 (cel e)) ∧ es.length ≤ 1000 ∧ p.length ≤ 1000 ∧ h.length ≤ 1000
def valS : FSpec where
  D ds := ∃ x p h, ds = [x, p, h] ∧ Sl 2 x ∧ Sl 1 p ∧ Sl 1 h ∧ V3 (rowsA x) (rowsA p) (rowsA h)
  val ds := match ds with
    | [x, p, h] => some (.tuple [.int .i64 (cond (vOk (rowsA x) (rowsA p) (rowsA h)) (sumZ (wsA (rowsA x) (rowsA p) (rowsA h))) 0), .bool (vOk (rowsA x) (rowsA p) (rowsA h))])
    | _ => none
noncomputable def spW : FuncId → Option FSpec := spAdd 22 valS (spAdd 25 setA (spAdd 24 samA noSp))
noncomputable def spX : FuncId → Option FSpec := spAdd 22 valS (spAdd 23 valS (spAdd 25 setA (spAdd 26 setA (spAdd 24 samA (spAdd 27 trueS noSp)))))
theorem t27 (L n : Nat) : FK tab spW lp5 L (n+8) 27 [] =
   (need
 (valS.D
 [DV.sl SK.tight 2 [[DV.int .i64 0, DV.int .i64 1000]], DV.sl SK.tight 1 [[DV.int .i64 100]],
 DV.sl SK.tight 1 [[DV.int .i64 10]]])
 (need
 (setA.D
 [DV.sl SK.tight 1 [[DV.int .i64 1], [DV.int .i64 2]], DV.int .i64 1, DV.int .i64 5])
 (need
 (samA.D
 [DV.sla false 1 [[DV.int .i64 1], [DV.int .i64 5]],
 DV.sl SK.tight 1 [[DV.int .i64 1], [DV.int .i64 5]]])
 (some
 (DV.bool
 (same1 (setL [[DV.int .i64 1], [DV.int .i64 2]] (1 : Int) (5 : Int))
 [[DV.int .i64 1], [DV.int .i64 5]])))))) :=
  (show FK tab spW lp5 L (n+8) 27 [] =
 (need (FSpec.D (valS) [(.sl (SK.tight) 2 [[(.int .i64 ((0 : Int))), (.int .i64 ((1000 : Int)))]]), (.sl (SK.tight) 1 [[(.int .i64 ((100 : Int)))]]), (.sl (SK.tight) 1 [[(.int .i64 ((10 : Int)))]])])
 (need (FSpec.D (setA) [(.sl (SK.tight) 1 [[(.int .i64 ((1 : Int)))], [(.int .i64 ((2 : Int)))]]), (.int .i64 ((1 : Int))), (.int .i64 ((5 : Int)))])
 (need (FSpec.D (samA) [(.sla false 1 [[(.int .i64 ((1 : Int)))], [(.int .i64 ((5 : Int)))]]), (.sl (SK.tight) 1 [[(.int .i64 ((1 : Int)))], [(.int .i64 ((5 : Int)))]])])
 (some (.bool (same1 (rowsA (DV.sla false 1 (setL (rowsA (DV.sl SK.tight 1 [[DV.int .i64 1], [DV.int .i64 2]])) (1 : Int) (5 : Int)))) (rowsA (DV.sl SK.tight 1 [[DV.int .i64 1], [DV.int .i64 5]])))))))) from by kernel_rfl).trans (by first | rfl | (simp only [decide_true, decide_false, eq_self, and_true, true_and, and_self, cond_true, cond_false, Nat.le_refl, Int.le_refl, Option.getD_some, Option.getD_none, Int.toNat_natCast, List.take_length, List.drop_zero, Nat.zero_add, List.nil_append, List.all_nil, List.append_nil, Bool.true_and, Bool.and_true, rowsA_sla, rowsA_sl, rowsA_nil, minus_zero, nat_le_cast, nat_nonneg, Option.isSome_some, Option.isSome_none, Bool.false_eq_true, false_and, and_false, if_true, if_false, implies_true, Int.toNat_zero, Bool.not_false, Bool.not_true, bne_self_eq_false]; done) | (simp only [decide_true, decide_false, eq_self, and_true, true_and, and_self, cond_true, cond_false, Nat.le_refl, Int.le_refl, Option.getD_some, Option.getD_none, Int.toNat_natCast, List.take_length, List.drop_zero, Nat.zero_add, List.nil_append, List.all_nil, List.append_nil, Bool.true_and, Bool.and_true, rowsA_sla, rowsA_sl, rowsA_nil, minus_zero, nat_le_cast, nat_nonneg, Option.isSome_some, Option.isSome_none, Bool.false_eq_true, false_and, and_false, if_true, if_false, implies_true, Int.toNat_zero, Bool.not_false, Bool.not_true, bne_self_eq_false]; rfl))
theorem t9 (L n : Nat) (es p h : List (List DV)) (i v : Int) : FK tab spX lp5 L (n+8) 9 [.sla false 2 es, .sla false 1 p, .sla false 1 h, .int .i64 i, .int .i64 v] =
   (bif
 bif bif decide ((↑es.length : Int) > (20 : Int)) then true else decide ((↑p.length : Int) > (20 : Int)) then true
 else decide ((↑h.length : Int) > (20 : Int)) then
 some (DV.bool true)
 else
 need (valS.D [DV.sla false 2 es, DV.sla false 1 p, DV.sla false 1 h])
 (need (valS.D [DV.sla false 2 es, DV.sla false 1 p, DV.sla false 1 h])
 (bif
 bif (bif vOk es p h then sumZ (wsA es p h) else (0 : Int)) == bif vOk es p h then sumZ (wsA es p h) else (0 : Int) then
 vOk es p h == vOk es p h
 else false then
 need (setA.D [DV.sla false 1 h, DV.int .i64 i, DV.int .i64 v])
 (need (setA.D [DV.sla false 1 h, DV.int .i64 i, DV.int .i64 v])
 (need (samA.D [DV.sla false 1 (setL h i v), DV.sla false 1 (setL h i v)])
 (bif same1 (setL h i v) (setL h i v) then need (trueS.D []) (some (DV.bool true)) else some (DV.bool false))))
 else some (DV.bool false)))) :=
  (show FK tab spX lp5 L (n+8) 9 [.sla false 2 es, .sla false 1 p, .sla false 1 h, .int .i64 i, .int .i64 v] =
 (cond (bif bif decide ((↑es.length : Int) > (20 : Int)) then true else decide ((↑p.length : Int) > (20 : Int)) then true else decide ((↑h.length : Int) > (20 : Int)))
 (some (.bool true))
 (need (FSpec.D (valS) [(.sla false 2 es), (.sla false 1 p), (.sla false 1 h)])
 (need (FSpec.D (valS) [(.sla false 2 es), (.sla false 1 p), (.sla false 1 h)])
 (cond (bif (bif vOk (rowsA (DV.sla false 2 es)) (rowsA (DV.sla false 1 p)) (rowsA (DV.sla false 1 h)) then sumZ (wsA (rowsA (DV.sla false 2 es)) (rowsA (DV.sla false 1 p)) (rowsA (DV.sla false 1 h))) else (0 : Int)) == bif vOk (rowsA (DV.sla false 2 es)) (rowsA (DV.sla false 1 p)) (rowsA (DV.sla false 1 h)) then sumZ (wsA (rowsA (DV.sla false 2 es)) (rowsA (DV.sla false 1 p)) (rowsA (DV.sla false 1 h))) else (0 : Int) then vOk (rowsA (DV.sla false 2 es)) (rowsA (DV.sla false 1 p)) (rowsA (DV.sla false 1 h)) == vOk (rowsA (DV.sla false 2 es)) (rowsA (DV.sla false 1 p)) (rowsA (DV.sla false 1 h)) else false)
 (need (FSpec.D (setA) [(.sla false 1 h), (.int .i64 i), (.int .i64 v)])
 (need (FSpec.D (setA) [(.sla false 1 h), (.int .i64 i), (.int .i64 v)])
 (need (FSpec.D (samA) [(.sla false 1 (setL (rowsA (DV.sla false 1 h)) i v)), (.sla false 1 (setL (rowsA (DV.sla false 1 h)) i v))])
 (cond (same1 (rowsA (DV.sla false 1 (setL (rowsA (DV.sla false 1 h)) i v))) (rowsA (DV.sla false 1 (setL (rowsA (DV.sla false 1 h)) i v))))
 (need (FSpec.D (trueS) [])
 (some (.bool true)))
 (some (.bool false))))))
 (some (.bool false)))))) from by kernel_rfl).trans (by first | rfl | (simp only [decide_true, decide_false, eq_self, and_true, true_and, and_self, cond_true, cond_false, Nat.le_refl, Int.le_refl, Option.getD_some, Option.getD_none, Int.toNat_natCast, List.take_length, List.drop_zero, Nat.zero_add, List.nil_append, List.all_nil, List.append_nil, Bool.true_and, Bool.and_true, rowsA_sla, rowsA_sl, rowsA_nil, minus_zero, nat_le_cast, nat_nonneg, Option.isSome_some, Option.isSome_none, Bool.false_eq_true, false_and, and_false, if_true, if_false, implies_true, Int.toNat_zero, Bool.not_false, Bool.not_true, bne_self_eq_false]; done) | (simp only [decide_true, decide_false, eq_self, and_true, true_and, and_self, cond_true, cond_false, Nat.le_refl, Int.le_refl, Option.getD_some, Option.getD_none, Int.toNat_natCast, List.take_length, List.drop_zero, Nat.zero_add, List.nil_append, List.all_nil, List.append_nil, Bool.true_and, Bool.and_true, rowsA_sla, rowsA_sl, rowsA_nil, minus_zero, nat_le_cast, nat_nonneg, Option.isSome_some, Option.isSome_none, Bool.false_eq_true, false_and, and_false, if_true, if_false, implies_true, Int.toNat_zero, Bool.not_false, Bool.not_true, bne_self_eq_false]; rfl))
theorem w_nn (e a b : List DV) : 0 ≤ wAt e a b ∧ wAt e a b ≤ 9223372036854775807 := by
  unfold wAt
  cases h : wOk (cel a) (cel b) (cut e) with
  | false => simp
  | true =>
    obtain ⟨h1, h2, h3, h4, h5⟩ := of_decide_eq_true h
    refine ⟨?_, h5⟩
    exact Int.ediv_nonneg (Int.mul_nonneg (Int.mul_nonneg h1 h2) (by omega)) (by omega)
section
variable {es p h : List (List DV)} (hp : p.length = es.length) (hh : h.length = es.length)
include hp hh
theorem os_len : (osA es p h).length = es.length := by simp [osA, hp, hh]
theorem ws_len : (wsA es p h).length = es.length := by simp [wsA, hp, hh]
theorem os_drop {i : Nat} (hi : i < es.length) : allB ((osA es p h).drop i) = (oAt es[i] (p[i]'(by omega)) (h[i]'(by omega)) && allB ((osA es p h).drop (i + 1))) := by
  rw [List.drop_eq_getElem_cons (show i < (osA es p h).length by rw [os_len hp hh]; exact hi)]
  simp only [osA, List.getElem_zipWith, List.getElem_zip, allB, List.all_cons, id]
theorem ws_drop {i : Nat} (hi : i < es.length) : sumZ ((wsA es p h).drop i) = wAt es[i] (p[i]'(by omega)) (h[i]'(by omega)) + sumZ ((wsA es p h).drop (i + 1)) := by
  rw [List.drop_eq_getElem_cons (show i < (wsA es p h).length by rw [ws_len hp hh]; exact hi)]
  simp only [wsA, List.getElem_zipWith, List.getElem_zip, sumZ, row1, cel, cellA_zero, toI_int]
theorem ws_take {i : Nat} (hi : i < es.length) : (wsA es p h).take (i + 1) = (wsA es p h).take i ++ [row1 (wAt es[i] (p[i]'(by omega)) (h[i]'(by omega)))] := by
  rw [List.take_succ_eq_append_getElem (show i < (wsA es p h).length by rw [ws_len hp hh]; exact hi)]
  simp only [wsA, List.getElem_zipWith, List.getElem_zip]
end
theorem ws_mem {es p h : List (List DV)} {r : List DV} (hr : r ∈ wsA es p h) : ∃ e a b, r = row1 (wAt e a b) := by
  obtain ⟨i, hi, rfl⟩ := List.getElem_of_mem hr
  simp only [wsA, List.getElem_zipWith]
  exact ⟨_, _, _, rfl⟩
theorem sum_nn : ∀ {l : List (List DV)}, (∀ r ∈ l, 0 ≤ cel r) → 0 ≤ sumZ l
  | [], _ => by simp [sumZ]
  | r :: l, h => by
    have h1 := h r (by simp)
    have h2 := sum_nn fun r hr => h r (List.mem_cons.2 (.inr hr))
    simp only [sumZ]
    omega
theorem ws_nn (es p h : List (List DV)) (i : Nat) : 0 ≤ sumZ ((wsA es p h).drop i) := sum_nn fun r hr => by
  obtain ⟨e, a, b, rfl⟩ := ws_mem (List.mem_of_mem_drop hr)
  exact (w_nn e a b).1
/-- loop 220, round by round -/
def P220 (es p h : List (List DV)) (i : Nat) : St :=
  cond (decide (i = 0)) (S220 es p h (.d .nilsl) es.length (i : Nat) [(51, none), (50051, none)])
    (cond (decide (i % 2 = 1)) (S220 es p h (.aref 51 1 0 ((wsA es p h).take i).length) es.length (i : Nat) [(51, some (.dat 2 1 ((wsA es p h).take i))), (50051, none)])
      (S220 es p h (.aref 50051 1 0 ((wsA es p h).take i).length) es.length (i : Nat) [(51, none), (50051, some (.dat 2 1 ((wsA es p h).take i)))]))
theorem P_odd (es p h : List (List DV)) {i : Nat} (h1 : i % 2 = 1) : P220 es p h i = S220 es p h (.aref 51 1 0 ((wsA es p h).take i).length) es.length (i : Nat) [(51, some (.dat 2 1 ((wsA es p h).take i))), (50051, none)] := by
  unfold P220
  rw [decide_eq_false (show ¬ i = 0 by omega), decide_eq_true h1]
  rfl
theorem P_even (es p h : List (List DV)) {i : Nat} (h0 : i ≠ 0) (h1 : i % 2 = 0) : P220 es p h i = S220 es p h (.aref 50051 1 0 ((wsA es p h).take i).length) es.length (i : Nat) [(51, none), (50051, some (.dat 2 1 ((wsA es p h).take i)))] := by
  unfold P220
  rw [decide_eq_false h0, decide_eq_false (show ¬ i % 2 = 1 by omega)]
  rfl
section
variable {es p h : List (List DV)} (hV : V3 es p h) (hp : p.length = es.length) (hh : h.length = es.length)
include hV hp hh
theorem step220 (L n : Nat) {i : Nat} (hi : i < es.length) (k : Kont) : LB tab spV lp5 L (n+4) h220 c22l0 (P220 es p h i) k = cond (oAt es[i] (p[i]'(by omega)) (h[i]'(by omega))) (k .nrm (P220 es p h (i + 1))) (k .ret R220) := by
  obtain ⟨v1, v2, v3, v4, v5, v6⟩ := hV
  have hip : i < p.length := by omega
  have hih : i < h.length := by omega
  obtain ⟨z1', c1⟩ := v1 _ (List.getElem_mem hi)
  obtain ⟨z2', c2⟩ := v2 _ (List.getElem_mem hip)
  obtain ⟨z3', c3⟩ := v3 _ (List.getElem_mem hih)
  have nW : worthV.D [.int .i64 (cellA p[i] 0).toI, .int .i64 (cellA h[i] 0).toI, .int .i64 (cellA es[i] 1).toI] := ⟨_, _, _, rfl, c2, c3, c1⟩
  have ht := ws_take hp hh hi
  have hlt : ((wsA es p h).take i).length ≤ 1000 := by rw [List.length_take]; omega
  have hr : ∀ l : List (List DV), l.length ≤ 1000 → ∀ r : List DV, decide ((l ++ [r]).length * 8 ≤ room ∧ (l ++ [r]).length ≤ room) = true := fun l hl r => room1 (by rw [List.length_append]; simp; omega)
  by_cases h0 : i = 0
  · subst h0
    rw [P_odd es p h (show (0 + 1) % 2 = 1 by omega), ht, List.take_zero, List.nil_append]
    show LB tab spV lp5 L (n+4) h220 c22l0 (S220 es p h (.d .nilsl) es.length ((0 : Nat) : Int) [(51, none), (50051, none)]) k = _
    rw [s220n, lt_dec hi, cond_true, look_nat hi, z1', cond_true, look_nat hip, z2', cond_true, look_nat hih, z3', cond_true, wrap_succ (by omega)]
    refine (need_pos nW).trans ?_
    show cond (!oAt es[0] p[0] h[0]) _ _ = _
    cases oAt es[0] p[0] h[0] <;> rfl
  · by_cases h1 : i % 2 = 1
    · rw [P_odd es p h h1, P_even es p h (show i + 1 ≠ 0 by omega) (by omega), ht]
      rw [s220a, lt_dec hi, cond_true, look_nat hi, z1', cond_true, look_nat hip, z2', cond_true, look_nat hih, z3', cond_true, wrap_succ (by omega), hr _ hlt, cond_true]
      refine (need_pos nW).trans ?_
      show cond (!oAt es[i] p[i] h[i]) _ _ = _
      cases oAt es[i] p[i] h[i] <;> rfl
    · rw [P_even es p h h0 (by omega), P_odd es p h (show (i + 1) % 2 = 1 by omega), ht]
      rw [s220b, lt_dec hi, cond_true, look_nat hi, z1', cond_true, look_nat hip, z2', cond_true, look_nat hih, z3', cond_true, wrap_succ (by omega), hr _ hlt, cond_true]
      refine (need_pos nW).trans ?_
      show cond (!oAt es[i] p[i] h[i]) _ _ = _
      cases oAt es[i] p[i] h[i] <;> rfl
theorem loop220 (L n : Nat) : ∀ r, (X220 es p h).val = some r → LoopOk (LB tab spV lp5 L (n+4) h220 c22l0) (S220 es p h (.d .nilsl) es.length 0 [(51, none), (50051, none)]) r := by
  intro r hr
  refine loop_meas (fun i : Nat => P220 es p h i) (fun i => es.length - i) (fun i => i ≤ es.length ∧ allB (osA es p h) = allB ((osA es p h).drop i)) (fun _ => r) (fun i hs => ?_) 0 ⟨Nat.zero_le _, by rw [List.drop_zero]⟩
  obtain ⟨h1, h2⟩ := hs
  by_cases hi : i < es.length
  · have hst := step220 hV hp hh L n hi
    cases hc : oAt es[i] (p[i]'(by omega)) (h[i]'(by omega)) with
    | true =>
      left
      refine ⟨i + 1, ⟨hi, ?_⟩, by omega, rfl, fun k => by rw [hst, hc]; rfl⟩
      rw [h2, os_drop hp hh hi, hc, Bool.true_and]
    | false =>
      right
      have : r = (.ret, R220) := by
        rw [os_drop hp hh hi, hc, Bool.false_and] at h2
        unfold X220 at hr
        rw [h2] at hr
        simp only [LR.val, cond_false, Option.some.injEq] at hr
        exact hr.symm
      subst this
      exact ⟨by simp, fun k => by rw [hst, hc]; rfl⟩
  · right
    have : i = es.length := by omega
    subst this
    have hall : allB (osA es p h) = true := by rw [h2, ← os_len hp hh, List.drop_length]; rfl
    unfold X220 at hr
    rw [hall] at hr
    simp only [LR.val, cond_true] at hr
    have hwt : (wsA es p h).take es.length = wsA es p h := by rw [← ws_len hp hh, List.take_length]
    have hf : decide (((es.length : Nat) : Int) < (es.length : Int)) = false := decide_eq_false (by omega)
    by_cases h0 : es.length = 0
    · rw [decide_eq_true h0, cond_true, Option.some.injEq] at hr
      subst hr
      refine ⟨by simp, fun k => ?_⟩
      have : P220 es p h es.length = S220 es p h (.d .nilsl) es.length ((es.length : Nat) : Int) [(51, none), (50051, none)] := by
        unfold P220
        rw [decide_eq_true h0]
        rfl
      simp only [this]
      rw [s220n, hf]
      rfl
    · by_cases h1 : es.length % 2 = 1
      · rw [decide_eq_false h0, decide_eq_true h1, cond_true, cond_false, Option.some.injEq] at hr
        subst hr
        refine ⟨by simp, fun k => ?_⟩
        simp only [P_odd es p h h1, hwt]
        rw [s220a, hf]
        rfl
      · rw [decide_eq_false h0, decide_eq_false h1, cond_false, cond_false, Option.some.injEq] at hr
        subst hr
        refine ⟨by simp, fun k => ?_⟩
        simp only [P_even es p h h0 (show es.length % 2 = 0 by omega), hwt]
        rw [s220b, hf]
        rfl
theorem loop230 (L n : Nat) : ∀ r, (X230 es p h).val = some r → LoopOk (LB tab spV lp5 L (n+4) h230 c23l0) (S230 es p h 0 0) r := by
  intro r hr
  refine loop_meas (fun s : Int × Nat => S230 es p h s.1 (s.2 : Nat)) (fun s => es.length - s.2) (fun s => s.2 ≤ es.length ∧ allB (osA es p h) = allB ((osA es p h).drop s.2) ∧ sumZ (wsA es p h) = s.1 + sumZ ((wsA es p h).drop s.2) ∧ 0 ≤ s.1 ∧ s.1 ≤ 9223372036854775807) (fun _ => r) (fun s hs => ?_) (0, 0) ⟨Nat.zero_le _, by rw [List.drop_zero], by rw [List.drop_zero]; simp, by simp, by simp⟩
  obtain ⟨m, i⟩ := s
  obtain ⟨h1, h2, h3, h4, h5⟩ := hs
  simp only at h1 h2 h3 h4 h5 ⊢
  obtain ⟨v1, v2, v3, v4, v5, v6⟩ := hV
  by_cases hi : i < es.length
  · have hip : i < p.length := by omega
    have hih : i < h.length := by omega
    obtain ⟨z1', c1⟩ := v1 _ (List.getElem_mem hi)
    obtain ⟨z2', c2⟩ := v2 _ (List.getElem_mem hip)
    obtain ⟨z3', c3⟩ := v3 _ (List.getElem_mem hih)
    obtain ⟨w1, w2⟩ := w_nn es[i] p[i] h[i]
    have wn := ws_nn es p h (i + 1)
    have nW : worthV.D [.int .i64 (cellA p[i] 0).toI, .int .i64 (cellA h[i] 0).toI, .int .i64 (cellA es[i] 1).toI] := ⟨_, _, _, rfl, c2, c3, c1⟩
    have nA : addF.D [.int .i64 m, .int .i64 (wAt es[i] p[i] h[i])] := ⟨_, _, rfl, by unfold is64; omega, by unfold is64; omega⟩
    have hst : ∀ k, LB tab spV lp5 L (n+4) h230 c23l0 (S230 es p h m (i : Nat)) k = cond (oAt es[i] p[i] h[i] && fitsB (m + wAt es[i] p[i] h[i])) (k .nrm (S230 es p h (m + wAt es[i] p[i] h[i]) ((i + 1 : Nat) : Int))) (k .ret (St.of [(6, .d (.int .i64 0)), (7, .d (.bool false))] [(52, none)])) := by
      intro k
      rw [s230, lt_dec hi, cond_true, look_nat hip, z2', cond_true, look_nat hih, z3', cond_true, look_nat hi, z1', cond_true, wrap_succ (by omega)]
      refine (need_pos nW).trans ((need_pos nA).trans ?_)
      show cond (cond (!oAt es[i] p[i] h[i]) true (!fitsB (m + wAt es[i] p[i] h[i]))) _ (k .nrm (St.of [(0, .d (.sla false 2 es)), (1, .d (.sla false 1 p)), (2, .d (.sla false 1 h)), (8, .d (.int .i64 (cond (fitsB (m + wAt es[i] p[i] h[i])) (m + wAt es[i] p[i] h[i]) 0))), (9, .d (.int .i64 ((i + 1 : Nat) : Int)))] [(52, none)])) = _
      cases oAt es[i] p[i] h[i] <;> cases fitsB (m + wAt es[i] p[i] h[i]) <;> rfl
    have hs := ws_drop hp hh hi
    cases hc : oAt es[i] p[i] h[i] with
    | false =>
      right
      have : r = (.ret, St.of [(6, .d (.int .i64 0)), (7, .d (.bool false))] [(52, none)]) := by
        rw [os_drop hp hh hi, hc, Bool.false_and] at h2
        unfold X230 at hr
        rw [h2, Bool.false_and] at hr
        simp only [LR.val, cond_false, Option.some.injEq] at hr
        exact hr.symm
      subst this
      exact ⟨by simp, fun k => by rw [hst, hc]; rfl⟩
    | true =>
      by_cases hf : m + wAt es[i] p[i] h[i] ≤ 9223372036854775807
      · left
        have hf' : fitsB (m + wAt es[i] p[i] h[i]) = true := decide_eq_true (by omega)
        refine ⟨(m + wAt es[i] p[i] h[i], i + 1), ⟨hi, ?_, ?_, ?_, hf⟩, by simp only; omega, trivial, fun k => by rw [hst, hc, hf']; rfl⟩
        · simp only
          rw [h2, os_drop hp hh hi, hc, Bool.true_and]
        · simp only
          omega
        · simp only
          omega
      · right
        have hf' : fitsB (m + wAt es[i] p[i] h[i]) = false := decide_eq_false (by omega)
        have hT : fitsB (sumZ (wsA es p h)) = false := decide_eq_false (by omega)
        have : r = (.ret, St.of [(6, .d (.int .i64 0)), (7, .d (.bool false))] [(52, none)]) := by
          unfold X230 at hr
          rw [hT, Bool.and_false] at hr
          simp only [LR.val, cond_false, Option.some.injEq] at hr
          exact hr.symm
        subst this
        exact ⟨by simp, fun k => by rw [hst, hc, hf']; rfl⟩
  · right
    have : i = es.length := by omega
    subst this
    have hall : allB (osA es p h) = true := by rw [h2, ← os_len hp hh, List.drop_length]; rfl
    have hT : sumZ (wsA es p h) = m := by
      rw [h3, ← ws_len hp hh, List.drop_length]
      simp [sumZ]
    have hf : decide (((es.length : Nat) : Int) < (es.length : Int)) = false := decide_eq_false (by omega)
    unfold X230 at hr
    rw [hall, Bool.true_and, hT, show fitsB m = true from decide_eq_true (by omega)] at hr
    simp only [LR.val, cond_true, Option.some.injEq] at hr
    subst hr
    exact ⟨by simp, fun k => by rw [s230, hf]; rfl⟩
end
theorem spV_ok : ∀ f s, spV f = some s → s.ok Try.prog f := spAdd_ok sum13 (spAdd_ok worth17v (spAdd_ok worth21v (spAdd_ok add20 noSp_ok)))
theorem EntX.gen3 {f : FuncId} {sa sb sc : Nat} {x y u : DV} {r : DV} (hx : Sl sa x) (hy : Sl sb y) (hu : Sl sc u) (h : EntX Try.prog f [.sla false sa (rowsA x), .sla false sb (rowsA y), .sla false sc (rowsA u)] r) : EntX Try.prog f [x, y, u] r :=
  h.args (LLe.cons hx.le (LLe.cons hy.le (LLe.cons hu.le (LLe.refl _)))) (hx.noMv _) rfl
theorem len_cond {a b c : Nat} : cond (((a : Nat) : Int) != ((b : Nat) : Int)) true (((c : Nat) : Int) != ((b : Nat) : Int)) = !(decide (a = b) && decide (c = b)) := by
  rw [bne_len, bne_len]
  cases decide (a = b) <;> cases decide (c = b) <;> rfl
theorem vOk_no {es p h : List (List DV)} (hl : (decide (p.length = es.length) && decide (h.length = es.length)) = false) : vOk es p h = false := by
  unfold vOk
  cases h1 : decide (p.length = es.length) with
  | false => rfl
  | true =>
    rw [h1, Bool.true_and] at hl
    rw [hl]
    rfl
theorem vOk_of {es p h : List (List DV)} (hp : p.length = es.length) (hh : h.length = es.length) : vOk es p h = (allB (osA es p h) && fitsB (sumZ (wsA es p h))) := by
  unfold vOk
  rw [decide_eq_true hp, decide_eq_true hh, Bool.true_and, Bool.true_and]
theorem ws_row {es p h : List (List DV)} (hp : p.length = es.length) (hh : h.length = es.length) (hl : es.length ≤ 1000) : sumS.D [.sl .ro 1 (wsA es p h)] := by
  refine ⟨_, rfl, .inr ⟨.ro, _, rfl, fun e he => ?_, ?_⟩, fun e he => ?_⟩
  · obtain ⟨_, _, _, rfl⟩ := ws_mem he
    rfl
  · rw [ws_len hp hh]
    omega
  · obtain ⟨e, a, b, rfl⟩ := ws_mem he
    have := w_nn e a b
    show is64 (wAt e a b)
    unfold is64
    omega
theorem val22 : valS.ok Try.prog 22 := fun ds r hD hv => by
  obtain ⟨x, y, u, rfl, hx, hy, hu, hV⟩ := hD
  cases hv
  refine EntX.gen3 hx hy hu (spec_run (lsp := lp5) tab_ok spV_ok 20 (0 + 8) ((t22 20 0 (rowsA x) (rowsA y) (rowsA u)).trans ?_))
  generalize rowsA x = es at *
  generalize rowsA y = p at *
  generalize rowsA u = h at *
  rw [len_cond]
  cases hl : (decide (p.length = es.length) && decide (h.length = es.length)) with
  | false =>
    rw [vOk_no hl]
    rfl
  | true =>
    obtain ⟨hp, hh⟩ := Bool.and_eq_true_iff.1 hl
    have hp := of_decide_eq_true hp
    have hh := of_decide_eq_true hh
    rw [Bool.not_true, cond_false, vOk_of hp hh]
    have hL := loop220 hV hp hh 20 (0 + 4)
    have hsum := ws_row hp hh hV.2.2.2.1
    unfold X220 at hL
    cases ha : allB (osA es p h) with
    | false =>
      rw [ha] at hL
      exact need_pos (hL _ rfl)
    | true =>
      rw [ha] at hL
      rw [cond_true, Bool.true_and]
      cases h0 : decide (es.length = 0) with
      | true =>
        rw [h0] at hL
        have hn : wsA es p h = [] := List.eq_nil_of_length_eq_zero (by rw [ws_len hp hh]; exact of_decide_eq_true h0)
        rw [hn]
        exact (need_pos (hL _ rfl)).trans (need_pos ⟨_, rfl, .inl rfl, fun e he => by simp [rows] at he⟩)
      | false =>
        rw [h0] at hL
        cases h1 : decide (es.length % 2 = 1) with
        | true =>
          rw [h1] at hL
          exact (need_pos (hL _ rfl)).trans (need_pos hsum)
        | false =>
          rw [h1] at hL
          exact (need_pos (hL _ rfl)).trans (need_pos hsum)
theorem val23 : valS.ok Try.prog 23 := fun ds r hD hv => by
  obtain ⟨x, y, u, rfl, hx, hy, hu, hV⟩ := hD
  cases hv
  refine EntX.gen3 hx hy hu (spec_run (lsp := lp5) tab_ok spV_ok 20 (0 + 8) ((t23 20 0 (rowsA x) (rowsA y) (rowsA u)).trans ?_))
  generalize rowsA x = es at *
  generalize rowsA y = p at *
  generalize rowsA u = h at *
  rw [len_cond]
  cases hl : (decide (p.length = es.length) && decide (h.length = es.length)) with
  | false =>
    rw [vOk_no hl]
    rfl
  | true =>
    obtain ⟨hp, hh⟩ := Bool.and_eq_true_iff.1 hl
    have hp := of_decide_eq_true hp
    have hh := of_decide_eq_true hh
    rw [Bool.not_true, cond_false, vOk_of hp hh]
    have hL := loop230 hV hp hh 20 (0 + 4)
    unfold X230 at hL
    cases ha : (allB (osA es p h) && fitsB (sumZ (wsA es p h))) with
    | false =>
      rw [ha] at hL
      exact need_pos (hL _ rfl)
    | true =>
      rw [ha] at hL
      exact need_pos (hL _ rfl)
theorem spW_ok : ∀ f s, spW f = some s → s.ok Try.prog f := spAdd_ok val22 (spAdd_ok set25 (spAdd_ok same24 noSp_ok))
theorem i1_two (q : SK) (a b : Int) : I1 1000 (.sl q 1 [[.int .i64 a], [.int .i64 b]]) := ⟨Sl.sl _ _ _, fun e he => by
  simp only [rowsA, List.mem_cons, List.not_mem_nil, or_false] at he
  rcases he with rfl | rfl <;> rfl, by simp [rowsA]⟩
theorem i1_two' (a b : Int) : I1 1000 (.sla false 1 [[.int .i64 a], [.int .i64 b]]) := ⟨Sl.sla _ _ _, fun e he => by
  simp only [rowsA, List.mem_cons, List.not_mem_nil, or_false] at he
  rcases he with rfl | rfl <;> rfl, by simp [rowsA]⟩
theorem known27' : trueS.ok Try.prog 27 := fun ds r hD hv => by
  cases hD
  cases hv
  refine spec_run (lsp := lp5) tab_ok spW_ok 20 (0 + 8) ((t27 20 0).trans ?_)
  have nV : valS.D [.sl .tight 2 [[.int .i64 0, .int .i64 1000]], .sl .tight 1 [[.int .i64 100]], .sl .tight 1 [[.int .i64 10]]] := by
    refine ⟨_, _, _, rfl, Sl.sl _ _ _, Sl.sl _ _ _, Sl.sl _ _ _, fun e he => ?_, fun e he => ?_, fun e he => ?_, by simp [rowsA], by simp [rowsA], by simp [rowsA]⟩ <;>
    · simp only [rowsA, List.mem_singleton] at he
      subst he
      exact ⟨rfl, by simp [is64, cut, cel, cellA, DV.toI]⟩
  refine (need_pos nV).trans ?_
  refine (need_pos ⟨_, _, _, rfl, i1_two _ _ _⟩).trans ?_
  refine (need_pos ⟨_, _, rfl, i1_two' _ _, i1_two _ _ _⟩).trans ?_
  have : setL [[.int .i64 1], [.int .i64 2]] 1 5 = [[.int .i64 1], [.int .i64 5]] := rfl
  rw [this, show same1 [[.int .i64 1], [.int .i64 5]] [[.int .i64 1], [.int .i64 5]] = true by simp [same1]]
theorem spX_ok : ∀ f s, spX f = some s → s.ok Try.prog f := spAdd_ok val22 (spAdd_ok val23 (spAdd_ok set25 (spAdd_ok set26 (spAdd_ok same24 (spAdd_ok known27' noSp_ok)))))
end Go.Proofs.Ytianifckopijjaa
