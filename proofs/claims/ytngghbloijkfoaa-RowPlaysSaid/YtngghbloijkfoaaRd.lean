/- What is known of the functions on rows of payments, by their runs: one more. No condition. -/
import Derived.Test.YtngghbloijkfoaaRc
import Derived.Test.YtngghbloijkfoaaInsD41
namespace Go.Proofs.Ytngghbloijkfoaa
open Go Go.Proofs Go.RowKit Vm
set_option linter.unusedVariables false
set_option linter.unusedSimpArgs false
noncomputable def spK7 : FuncId → Option FSpec := spAdd 22 putS (spAdd 19 isPS (spAdd 34 fndS noSp))
def kno7 : FSpec where
  D ds := ds = []
  val _ := some (.bool true)
noncomputable def spL7 : FuncId → Option FSpec := spAdd 21 kno7 (spAdd 19 isPS (spAdd 20 isPS noSp))
theorem t21 (L n : Nat) : FK tab spK7 lsp0 L (n+8) 21 [] =
   (need
 (putS.D
 [DV.nilsl,
 DV.agg
 [DV.int .i64 1, DV.int .i64 0, DV.int .i64 0, DV.int .i64 0, DV.int .i64 3, DV.int .i64 0, DV.int .i64 0]])
 (need
 (putS.D
 [DV.sla false 7
 [[DV.int .i64 1, DV.int .i64 0, DV.int .i64 0, DV.int .i64 0, DV.int .i64 3, DV.int .i64 0, DV.int .i64 0]],
 DV.agg
 [DV.int .i64 2, DV.int .i64 0, DV.int .i64 0, DV.int .i64 0, DV.int .i64 2, DV.int .i64 0, DV.int .i64 0]])
 (need
 (isPS.D
 [DV.sla false 7
 [[DV.int .i64 2, DV.int .i64 0, DV.int .i64 0, DV.int .i64 0, DV.int .i64 2, DV.int .i64 0, DV.int .i64 0],
 [DV.int .i64 1, DV.int .i64 0, DV.int .i64 0, DV.int .i64 0, DV.int .i64 3, DV.int .i64 0, DV.int .i64 0]]])
 (need
 (fndS.D
 [DV.sla false 7
 [[DV.int .i64 2, DV.int .i64 0, DV.int .i64 0, DV.int .i64 0, DV.int .i64 2, DV.int .i64 0, DV.int .i64 0],
 [DV.int .i64 1, DV.int .i64 0, DV.int .i64 0, DV.int .i64 0, DV.int .i64 3, DV.int .i64 0, DV.int .i64 0]], DV.int .i64 1])
 (need
 (fndS.D
 [DV.sla false 7
 [[DV.int .i64 2, DV.int .i64 0, DV.int .i64 0, DV.int .i64 0, DV.int .i64 2, DV.int .i64 0, DV.int .i64 0],
 [DV.int .i64 1, DV.int .i64 0, DV.int .i64 0, DV.int .i64 0, DV.int .i64 3, DV.int .i64 0, DV.int .i64 0]], DV.int .i64 9])
 (some
 (DV.bool
 (fI
 (putL
 (putL []
 [DV.int .i64 1, DV.int .i64 0, DV.int .i64 0, DV.int .i64 0, DV.int .i64 3, DV.int .i64 0, DV.int .i64 0])
 [DV.int .i64 2, DV.int .i64 0, DV.int .i64 0, DV.int .i64 0, DV.int .i64 2, DV.int .i64 0, DV.int .i64 0])
 (9 : Int) ==
 (-1 : Int))))))))) :=
  (show FK tab spK7 lsp0 L (n+8) 21 [] =
 (need (FSpec.D (putS) [.nilsl, (.agg [(.int .i64 ((1 : Int))), (.int .i64 ((0 : Int))), (.int .i64 ((0 : Int))), (.int .i64 ((0 : Int))), (.int .i64 ((3 : Int))), (.int .i64 ((0 : Int))), (.int .i64 ((0 : Int)))])])
 (need (FSpec.D (putS) [(.sla false 7 [[(.int .i64 ((1 : Int))), (.int .i64 ((0 : Int))), (.int .i64 ((0 : Int))), (.int .i64 ((0 : Int))), (.int .i64 ((3 : Int))), (.int .i64 ((0 : Int))), (.int .i64 ((0 : Int)))]]), (.agg [(.int .i64 ((2 : Int))), (.int .i64 ((0 : Int))), (.int .i64 ((0 : Int))), (.int .i64 ((0 : Int))), (.int .i64 ((2 : Int))), (.int .i64 ((0 : Int))), (.int .i64 ((0 : Int)))])])
 (need (FSpec.D (isPS) [(.sla false 7 [[(.int .i64 ((2 : Int))), (.int .i64 ((0 : Int))), (.int .i64 ((0 : Int))), (.int .i64 ((0 : Int))), (.int .i64 ((2 : Int))), (.int .i64 ((0 : Int))), (.int .i64 ((0 : Int)))], [(.int .i64 ((1 : Int))), (.int .i64 ((0 : Int))), (.int .i64 ((0 : Int))), (.int .i64 ((0 : Int))), (.int .i64 ((3 : Int))), (.int .i64 ((0 : Int))), (.int .i64 ((0 : Int)))]])])
 (need (FSpec.D (fndS) [(.sla false 7 [[(.int .i64 ((2 : Int))), (.int .i64 ((0 : Int))), (.int .i64 ((0 : Int))), (.int .i64 ((0 : Int))), (.int .i64 ((2 : Int))), (.int .i64 ((0 : Int))), (.int .i64 ((0 : Int)))], [(.int .i64 ((1 : Int))), (.int .i64 ((0 : Int))), (.int .i64 ((0 : Int))), (.int .i64 ((0 : Int))), (.int .i64 ((3 : Int))), (.int .i64 ((0 : Int))), (.int .i64 ((0 : Int)))]]), (.int .i64 ((1 : Int)))])
 (need (FSpec.D (fndS) [(.sla false 7 [[(.int .i64 ((2 : Int))), (.int .i64 ((0 : Int))), (.int .i64 ((0 : Int))), (.int .i64 ((0 : Int))), (.int .i64 ((2 : Int))), (.int .i64 ((0 : Int))), (.int .i64 ((0 : Int)))], [(.int .i64 ((1 : Int))), (.int .i64 ((0 : Int))), (.int .i64 ((0 : Int))), (.int .i64 ((0 : Int))), (.int .i64 ((3 : Int))), (.int .i64 ((0 : Int))), (.int .i64 ((0 : Int)))]]), (.int .i64 ((9 : Int)))])
 (some (.bool (fI (rowsA (DV.sla false 7 (putL (rowsA (DV.sla false 7 (putL (rowsA DV.nilsl) [DV.int .i64 1, DV.int .i64 0, DV.int .i64 0, DV.int .i64 0, DV.int .i64 3, DV.int .i64 0, DV.int .i64 0]))) [DV.int .i64 2, DV.int .i64 0, DV.int .i64 0, DV.int .i64 0, DV.int .i64 2, DV.int .i64 0, DV.int .i64 0]))) (9 : Int) == (-1 : Int))))))))) from by kernel_rfl).trans (by first | rfl | (simp only [decide_true, decide_false, eq_self, and_true, true_and, and_self, cond_true, cond_false, Nat.le_refl, Int.le_refl, Option.getD_some, Option.getD_none, Int.toNat_natCast, List.take_length, List.drop_zero, Nat.zero_add, List.nil_append, List.all_nil, List.append_nil, Bool.true_and, Bool.and_true, rowsA_sla, rowsA_sl, rowsA_nil, minus_zero, nat_le_cast, nat_nonneg, Option.isSome_some, Option.isSome_none, Bool.false_eq_true, false_and, and_false, if_true, if_false, implies_true, Int.toNat_zero, Bool.not_false, Bool.not_true, bne_self_eq_false]; done) | (simp only [decide_true, decide_false, eq_self, and_true, true_and, and_self, cond_true, cond_false, Nat.le_refl, Int.le_refl, Option.getD_some, Option.getD_none, Int.toNat_natCast, List.take_length, List.drop_zero, Nat.zero_add, List.nil_append, List.all_nil, List.append_nil, Bool.true_and, Bool.and_true, rowsA_sla, rowsA_sl, rowsA_nil, minus_zero, nat_le_cast, nat_nonneg, Option.isSome_some, Option.isSome_none, Bool.false_eq_true, false_and, and_false, if_true, if_false, implies_true, Int.toNat_zero, Bool.not_false, Bool.not_true, bne_self_eq_false]; rfl))
theorem tw_spec (f : List DV → Bool) : ∀ es : List (List DV), (es.takeWhile f).length ≤ es.length ∧ (∀ i (_ : i < (es.takeWhile f).length) (h2 : i < es.length), f es[i] = true) ∧ ∀ h : (es.takeWhile f).length < es.length, f es[(es.takeWhile f).length] = false
  | [] => ⟨by simp, fun i h _ => by simp at h, fun h => by simp at h⟩
  | e :: l => by
    obtain ⟨h1, h2, h3⟩ := tw_spec f l
    simp only [List.takeWhile_cons]
    by_cases hc : f e = true
    · simp only [hc, if_true, List.length_cons]
      refine ⟨by omega, fun i hi hl => ?_, fun h => ?_⟩
      · cases i with
        | zero => simpa using hc
        | succ i => simpa using h2 i (by omega) (by simpa using hl)
      · simpa using h3 (by omega)
    · have hc : f e = false := by simpa using hc
      simp only [hc, Bool.false_eq_true, if_false, List.length_nil]
      refine ⟨by omega, fun i hi => by omega, fun h => ?_⟩
      simpa using hc
theorem all_one7 {es : List (List DV)} (h : ∀ e ∈ es, okRow z7 e = true) : (es.all fun (e : List DV) => e.length == 7 && e.all DV.one) = true := by
  rw [List.all_eq_true]
  intro e he
  obtain ⟨a0, a1, a2, a3, a4, a5, a6, rfl⟩ := okRow_p (h e he)
  rfl
theorem room7 {n : Nat} (h : n ≤ 1000000) : decide (n * 56 ≤ room ∧ n ≤ room) = true := decide_eq_true (by unfold room; omega)
theorem resP {f : FuncId} {ds : List DV} {x : DV} {sz : Nat} {es : List (List DV)} {e : Int} (hx : DLe (ro1 x) (.sla false sz es)) (h : EntX Try.prog f ds (.tuple [x, .int .i64 e])) : EntX Try.prog f ds (.tuple [.sla false sz es, .int .i64 e]) :=
  h.res (DLe.tuple (LLe.cons hx (LLe.refl _))) rfl
theorem ins41 : insP.ok Try.prog 41 := fun ds r hD hv => by
  obtain ⟨es, i, y, p, hds, hl, hy, hyr, hp⟩ := hD
  obtain ⟨a0, a1, a2, a3, a4, a5, a6, rfl⟩ := okRow_p hp
  rcases hds with ⟨rfl, hi⟩ | ⟨rfl, rfl, rfl⟩
  · simp only [insP, Option.some.injEq] at hv
    subst hv
    rw [Int.toNat_natCast, hyr]
    by_cases hlt : i < es.length
    · exact ins41_lt hlt rfl rfl hy hyr (by omega)
    · have : i = es.length := by omega
      subst this
      rw [List.take_length, List.drop_length]
      have hle : DLe y (.sla false 7 (rowsA y)) := hy.le
      rw [hyr] at hle
      refine EntX.mvargs (LLe.cons (DLe.refl _) (LLe.cons hle (LLe.refl _))) (spec_run (lsp := lp) tab_ok noSp_ok 20 (0 + 8) ((t41 20 0 es _ a0 a1 a2 a3 a4 a5 a6).trans ?_))
      generalize hp : [DV.int .i64 a0, .int .i64 a1, .int .i64 a2, .int .i64 a3, .int .i64 a4, .int .i64 a5, .int .i64 a6] = p
      have hsz : decide ((es ++ [p]).length * 56 ≤ room ∧ (es ++ [p]).length ≤ room) = true := room7 (by rw [List.length_append]; simp; omega)
      have h3 : ((es.length : Int) == (es.length : Int)) = true := beq_self_eq_true _
      rw [hsz, decide_eq_true (show (0 : Int) ≤ (es.length : Int) by omega), h3, cond_true]
      simp only [Int.le_refl, decide_true, cond_true]
      rfl
  · simp only [insP, Option.some.injEq] at hv
    subst hv
    rw [hyr]
    have hle : DLe y (.sla false 7 (rowsA y)) := hy.le
    rw [hyr] at hle
    exact EntX.args (LLe.cons (DLe.refl _) (LLe.cons (DLe.refl _) (LLe.cons hle (LLe.refl _)))) rfl rfl (spec_run (lsp := lp) tab_ok noSp_ok 20 (0 + 8) (t41n 20 0 a0 a1 a2 a3 a4 a5 a6))
theorem spQ_ok : ∀ f s, spQ f = some s → s.ok Try.prog f := spAdd_ok fnd34 (spAdd_ok ins41 noSp_ok)
theorem loop220n (L n : Nat) (a0 a1 a2 a3 a4 a5 a6 : Int) :
    LoopOk (LB tab spQ lp (L+4) (n+4) h220 c22l0) (S220 .nilsl [.int .i64 a0, .int .i64 a1, .int .i64 a2, .int .i64 a3, .int .i64 a4, .int .i64 a5, .int .i64 a6] 0) (.ex 1, S220 .nilsl [.int .i64 a0, .int .i64 a1, .int .i64 a2, .int .i64 a3, .int .i64 a4, .int .i64 a5, .int .i64 a6] 0) :=
  loop_meas (fun _ : Unit => S220 .nilsl [.int .i64 a0, .int .i64 a1, .int .i64 a2, .int .i64 a3, .int .i64 a4, .int .i64 a5, .int .i64 a6] 0) (fun _ => 0) (fun _ => True) (fun _ => (.ex 1, S220 .nilsl [.int .i64 a0, .int .i64 a1, .int .i64 a2, .int .i64 a3, .int .i64 a4, .int .i64 a5, .int .i64 a6] 0)) (fun _ _ => .inr ⟨by simp, fun k => s220n L n a0 a1 a2 a3 a4 a5 a6 0 k⟩) () trivial
theorem loop220 (L n : Nat) {es : List (List DV)} (hz : ∀ e ∈ es, okRow z7 e = true) (hl : es.length ≤ 1000) (a0 a1 a2 a3 a4 a5 a6 : Int) :
    LoopOk (LB tab spQ lp (L+4) (n+4) h220 c22l0) (S220 (.sl .ro 7 es) [.int .i64 a0, .int .i64 a1, .int .i64 a2, .int .i64 a3, .int .i64 a4, .int .i64 a5, .int .i64 a6] 0) (.ex 1, S220 (.sl .ro 7 es) [.int .i64 a0, .int .i64 a1, .int .i64 a2, .int .i64 a3, .int .i64 a4, .int .i64 a5, .int .i64 a6] (bhP es [.int .i64 a0, .int .i64 a1, .int .i64 a2, .int .i64 a3, .int .i64 a4, .int .i64 a5, .int .i64 a6])) := by
  have hstep : ∀ (i : Nat) (hi : i < es.length) k, LB tab spQ lp (L+4) (n+4) h220 c22l0 (S220 (.sl .ro 7 es) [.int .i64 a0, .int .i64 a1, .int .i64 a2, .int .i64 a3, .int .i64 a4, .int .i64 a5, .int .i64 a6] (i : Nat)) k = cond (ahB es[i] [.int .i64 a0, .int .i64 a1, .int .i64 a2, .int .i64 a3, .int .i64 a4, .int .i64 a5, .int .i64 a6]) (k .nrm (S220 (.sl .ro 7 es) [.int .i64 a0, .int .i64 a1, .int .i64 a2, .int .i64 a3, .int .i64 a4, .int .i64 a5, .int .i64 a6] ((i + 1 : Nat) : Int))) (k (.ex 1) (S220 (.sl .ro 7 es) [.int .i64 a0, .int .i64 a1, .int .i64 a2, .int .i64 a3, .int .i64 a4, .int .i64 a5, .int .i64 a6] (i : Nat))) := by
    intro i hi k
    have hzi := hz _ (List.getElem_mem hi)
    rw [← ord_le]
    have e : ordI es[i] [.int .i64 a0, .int .i64 a1, .int .i64 a2, .int .i64 a3, .int .i64 a4, .int .i64 a5, .int .i64 a6] = cond (decide ((cellA es[i] 1).toI < a1)) (-1) (cond (decide ((cellA es[i] 1).toI > a1)) 1 (cond (decide ((cellA es[i] 4).toI < a4)) (-1) (cond (decide ((cellA es[i] 4).toI > a4)) 1 0))) := rfl
    rw [e, s220, lt_dec hi, cond_true, look_nat hi, hzi, cond_true, wrap_succ (by omega)]
    cases decide ((cellA es[i] 1).toI < a1) <;> cases decide ((cellA es[i] 1).toI > a1) <;> cases decide ((cellA es[i] 4).toI < a4) <;> cases decide ((cellA es[i] 4).toI > a4) <;> rfl
  have hend : ∀ k, LB tab spQ lp (L+4) (n+4) h220 c22l0 (S220 (.sl .ro 7 es) [.int .i64 a0, .int .i64 a1, .int .i64 a2, .int .i64 a3, .int .i64 a4, .int .i64 a5, .int .i64 a6] (es.length : Nat)) k = k (.ex 1) (S220 (.sl .ro 7 es) [.int .i64 a0, .int .i64 a1, .int .i64 a2, .int .i64 a3, .int .i64 a4, .int .i64 a5, .int .i64 a6] (es.length : Nat)) := fun k => by rw [s220, lt_dec_self]; rfl
  generalize hp : [DV.int .i64 a0, .int .i64 a1, .int .i64 a2, .int .i64 a3, .int .i64 a4, .int .i64 a5, .int .i64 a6] = p at *
  obtain ⟨p0, p1, p2⟩ := tw_spec (fun e => ahB e p) es
  change bhP es p ≤ es.length at p0
  change ∀ i (_ : i < bhP es p) (h2 : i < es.length), ahB es[i] p = true at p1
  change ∀ h : bhP es p < es.length, ahB es[bhP es p] p = false at p2
  refine loop_meas (fun i : Nat => S220 (.sl .ro 7 es) p (i : Nat)) (fun i => es.length - i) (fun i => i ≤ bhP es p) (fun _ => (.ex 1, S220 (.sl .ro 7 es) p (bhP es p)))
    (fun i hs => ?_) 0 (Nat.zero_le _)
  by_cases hi : i < es.length
  · cases hc : ahB es[i] p with
    | true =>
      left
      have hlt : i < bhP es p := by
        apply Nat.lt_of_not_le
        intro hge
        have : i = bhP es p := by omega
        subst this
        rw [p2 hi] at hc
        cases hc
      exact ⟨i + 1, hlt, by omega, rfl, fun k => by rw [hstep i hi, hc]; rfl⟩
    | false =>
      right
      have : i = bhP es p := by
        apply Nat.le_antisymm hs
        apply Nat.le_of_not_lt
        intro hlt
        rw [p1 i hlt hi] at hc
        cases hc
      refine ⟨by simp, fun k => ?_⟩
      rw [hstep i hi, hc, cond_false, this]
  · right
    have h1 : i = es.length := by omega
    have h2 : bhP es p = es.length := by omega
    refine ⟨by simp, fun k => ?_⟩
    rw [h1, hend, h2]
theorem put22 : putS.ok Try.prog 22 := fun ds r hD hv => by
  obtain ⟨x, p, rfl, ⟨hx, hz, hl⟩, hp⟩ := hD
  cases hv
  obtain ⟨a0, a1, a2, a3, a4, a5, a6, rfl⟩ := okRow_p hp
  refine EntX.gen1 hx (EntX.sla (fun he => ?_) ?_)
  · rw [he]
    refine resP (x := .sl (.own 38) 7 [[.int .i64 a0, .int .i64 a1, .int .i64 a2, .int .i64 a3, .int .i64 a4, .int .i64 a5, .int .i64 a6]]) (DLe.sl _ _ _) (spec_run (lsp := lp) tab_ok spQ_ok (16 + 4) (0 + 8) ((t22n 20 0 a0 a1 a2 a3 a4 a5 a6).trans ?_))
    refine (need_pos ⟨_, _, rfl, Sl.nil _, by simp [rowsA], by simp [rowsA]⟩).trans ?_
    refine (need_pos (loop220n 16 (0 + 4) a0 a1 a2 a3 a4 a5 a6)).trans ?_
    exact need_pos ⟨[], 0, _, _, .inr ⟨rfl, rfl, rfl⟩, by simp, Sl.sl _ _ _, rfl, rfl⟩
  · generalize rowsA x = es at *
    have hid : idO [DV.int .i64 a0, .int .i64 a1, .int .i64 a2, .int .i64 a3, .int .i64 a4, .int .i64 a5, .int .i64 a6] = a0 := rfl
    have eg : decide (fI es a0 ≥ (0 : Int)) = decide (0 ≤ fI es a0) := rfl
    have eg2 : decide (((es.length : Nat) : Int) ≥ (40 : Int)) = decide (40 ≤ es.length) := decide_eq_decide.2 (by omega)
    have hD1 : fndS.D [.sl .ro 7 es, .int .i64 a0] := ⟨_, _, rfl, Sl.sl _ _ _, hz, hl⟩
    have h22 := t22 (16 + 4) 0 es a0 a1 a2 a3 a4 a5 a6
    rw [need_pos hD1, eg, eg2] at h22
    have hL := loop220 16 (0 + 4) hz hl a0 a1 a2 a3 a4 a5 a6
    have hpp : okRow z7 [DV.int .i64 a0, .int .i64 a1, .int .i64 a2, .int .i64 a3, .int .i64 a4, .int .i64 a5, .int .i64 a6] = true := rfl
    unfold putL putE
    rw [hid]
    by_cases h1 : 0 ≤ fI es a0
    · rw [decide_eq_true h1] at h22 ⊢
      exact resP (x := .sl .ro 7 es) (DLe.sl _ _ _) (spec_run (lsp := lp) tab_ok spQ_ok (16 + 4) (0 + 8) h22)
    · rw [decide_eq_false h1] at h22 ⊢
      by_cases h2 : 40 ≤ es.length
      · rw [decide_eq_true h2] at h22 ⊢
        exact resP (x := .sl .ro 7 es) (DLe.sl _ _ _) (spec_run (lsp := lp) tab_ok spQ_ok (16 + 4) (0 + 8) h22)
      · rw [decide_eq_false h2] at h22 ⊢
        rw [cond_false, cond_false] at h22
        simp only [cond_false]
        have h22 := h22.trans (need_pos hL)
        have hb := (tw_spec (fun e => ahB e [DV.int .i64 a0, .int .i64 a1, .int .i64 a2, .int .i64 a3, .int .i64 a4, .int .i64 a5, .int .i64 a6]) es).1
        by_cases h0 : es.length = 0
        · have : es = [] := List.eq_nil_of_length_eq_zero h0
          subst this
          rw [decide_eq_true h0, cond_true, need_pos ⟨[], bhP [] _, _, _, .inl ⟨rfl, by simp [bhP]⟩, by simp, Sl.sl _ _ _, rfl, hpp⟩] at h22
          exact resP (x := .sl (.own 38) 7 (List.take (bhP [] [.int .i64 a0, .int .i64 a1, .int .i64 a2, .int .i64 a3, .int .i64 a4, .int .i64 a5, .int .i64 a6]) [] ++ (([.int .i64 a0, .int .i64 a1, .int .i64 a2, .int .i64 a3, .int .i64 a4, .int .i64 a5, .int .i64 a6] : List DV) :: List.drop (bhP [] [.int .i64 a0, .int .i64 a1, .int .i64 a2, .int .i64 a3, .int .i64 a4, .int .i64 a5, .int .i64 a6]) []))) (DLe.sl _ _ _) (spec_run (lsp := lp) tab_ok spQ_ok (16 + 4) (0 + 8) h22)
        · rw [decide_eq_false h0, cond_false, all_one7 hz, cond_true, room7 (by omega), cond_true, need_pos ⟨es, bhP es _, _, _, .inl ⟨rfl, hb⟩, by omega, Sl.sl _ _ _, rfl, hpp⟩] at h22
          exact resP (x := .sl (.own 38) 7 (List.take (bhP es [.int .i64 a0, .int .i64 a1, .int .i64 a2, .int .i64 a3, .int .i64 a4, .int .i64 a5, .int .i64 a6]) es ++ (([.int .i64 a0, .int .i64 a1, .int .i64 a2, .int .i64 a3, .int .i64 a4, .int .i64 a5, .int .i64 a6] : List DV) :: List.drop (bhP es [.int .i64 a0, .int .i64 a1, .int .i64 a2, .int .i64 a3, .int .i64 a4, .int .i64 a5, .int .i64 a6]) es))) (DLe.sl _ _ _) (spec_run (lsp := lp) tab_ok spQ_ok (16 + 4) (0 + 8) h22)
theorem spK7_ok : ∀ f s, spK7 f = some s → s.ok Try.prog f := spAdd_ok put22 (spAdd_ok is19 (spAdd_ok fnd34 noSp_ok))
theorem ok7 (a0 a1 a2 a3 a4 a5 a6 : Int) : okRow z7 [.int .i64 a0, .int .i64 a1, .int .i64 a2, .int .i64 a3, .int .i64 a4, .int .i64 a5, .int .i64 a6] = true := rfl
theorem known21 : kno7.ok Try.prog 21 := fun ds r hD hv => by
  cases hD
  cases hv
  exact spec_run (lsp := lsp0) tab_ok spK7_ok 20 (0 + 8) ((t21 20 0).trans (by
    refine (need_pos ⟨_, _, rfl, ⟨Sl.nil _, by simp [rowsA], by simp [rowsA]⟩, rfl⟩).trans ?_
    refine (need_pos ⟨_, _, rfl, ⟨Sl.sla _ _ _, by simp [rowsA, ok7], by simp [rowsA]⟩, rfl⟩).trans ?_
    refine (need_pos ⟨_, rfl, ⟨Sl.sla _ _ _, by simp [rowsA, ok7], by simp [rowsA]⟩⟩).trans ?_
    refine (need_pos ⟨_, _, rfl, ⟨Sl.sla _ _ _, by simp [rowsA, ok7], by simp [rowsA]⟩⟩).trans ?_
    exact need_pos ⟨_, _, rfl, ⟨Sl.sla _ _ _, by simp [rowsA, ok7], by simp [rowsA]⟩⟩))
theorem spL7_ok : ∀ f s, spL7 f = some s → s.ok Try.prog f := spAdd_ok known21 (spAdd_ok is19 (spAdd_ok is20 noSp_ok))
end Go.Proofs.Ytngghbloijkfoaa
