/- PoolParts's own loop. No condition. -/
import Derived.Test.YtianifckopijjaaPf
namespace Go.Proofs.Ytianifckopijjaa
open Go Go.Proofs Go.RowKit Vm
set_option linter.unusedVariables false
set_option linter.unusedSimpArgs false
theorem ok_i {p h : List (List DV)} : ∀ {i : Nat}, allB (okP (p.take i) (h.take i)) = true → h.length = p.length → ∀ (hi : i < p.length) (hih : i < h.length), okR p[i] h[i] = true → allB (okP (p.take (i + 1)) (h.take (i + 1))) = true := fun {i} ha hl hi hih hr => by
  rw [List.take_succ_eq_append_getElem hi, List.take_succ_eq_append_getElem hih]
  unfold okP allB at *
  rw [List.zipWith_append (by rw [List.length_take, List.length_take, hl]), List.all_append, ha]
  simp [hr]
theorem m_succ (c : Int) {p h : List (List DV)} (hl : h.length = p.length) {i : Nat} (hi : i < p.length) (hih : i < h.length) : m120 c p h (i + 1) = m120 c p h i + wAt [.int .i64 0, .int .i64 c] p[i] h[i] := by
  unfold m120 wl
  rw [List.take_succ_eq_append_getElem hi, List.take_succ_eq_append_getElem hih, List.zipWith_append (by rw [List.length_take, List.length_take, hl]), sumZ_append]
  show _ + (wAt [.int .i64 0, .int .i64 c] p[i] h[i] + 0) = _
  rw [Int.add_zero]
theorem rev_succ {p : List (List DV)} {i : Nat} (hi : i < p.length) : (p.take (i + 1)).reverse = p[i] :: (p.take i).reverse := by
  rw [List.take_succ_eq_append_getElem hi, List.reverse_append]
  rfl
theorem aN_succ (c : Int) (n : Nat) : aN c (n + 1) = aN c n ++ [[.int .i64 0, .int .i64 c]] := List.replicate_succ'
theorem aN_len (c : Int) (n : Nat) : (aN c n).length = n := List.length_replicate
theorem eta1 {e : List DV} (h : okRow z1 e = true) : [DV.int .i64 (cellA e 0).toI] = e := by
  obtain ⟨n, rfl⟩ := okRow_form h
  rfl
theorem room2 {n : Nat} (h : n ≤ 1000000) : decide (n * 16 ≤ room ∧ n ≤ room) = true := decide_eq_true (by unfold room; omega)
section
variable {c : Int} (h0 : 0 ≤ c) (h1 : c ≤ 10000) {p h : List (List DV)} (hp : ∀ e ∈ p, okRow z1 e = true ∧ is64 (cel e)) (hh : ∀ e ∈ h, okRow z1 e = true ∧ is64 (cel e)) (hl : h.length = p.length) (h6 : p.length ≤ 6)
include h0 h1 hp hh hl h6
theorem step120 (L n : Nat) {i : Nat} (hi : i < p.length) (ha : allB (okP (p.take i) (h.take i)) = true) (k : Kont) : LB tab spY lp12 L (n+4) h120 c12l0 (P120 p h c i) k = cond (okR p[i] (h[i]'(by omega))) (k .nrm (P120 p h c (i + 1))) (k .ret R120) := by
  have hih : i < h.length := by omega
  obtain ⟨z1', c1⟩ := hp _ (List.getElem_mem hi)
  obtain ⟨z2', c2⟩ := hh _ (List.getElem_mem hih)
  have hzz : okRow [DV.int .i64 0] p[i] = true := z1'
  have hzz2 : okRow [DV.int .i64 0] h[i] = true := z2'
  have nW : worthV.D [.int .i64 (cellA p[i] 0).toI, .int .i64 (cellA h[i] 0).toI, .int .i64 c] := ⟨_, _, _, rfl, c1, c2, by unfold is64; omega⟩
  have hli : (h.take i).length = (p.take i).length := by rw [List.length_take, List.length_take, hl]
  obtain ⟨_, _, f3, f4⟩ := wl_facts h0 h1 (p.take i) (h.take i) hli ha _ (Nat.le_refl _)
  change 0 ≤ m120 c p h i at f3
  change m120 c p h i ≤ _ at f4
  have hlt : (p.take i).length = i := by rw [List.length_take]; omega
  have hlt2 : (h.take i).length = i := by rw [List.length_take]; omega
  have hms := m_succ c hl hi hih
  have hP : ∀ e ∈ (p.take i).reverse, okRow z1 e = true := fun e he => (hp e (List.mem_of_mem_take (List.mem_reverse.1 he))).1
  have hH : ∀ e ∈ (h.take i).reverse, okRow z1 e = true := fun e he => (hh e (List.mem_of_mem_take (List.mem_reverse.1 he))).1
  have rP := rev_succ hi
  have rH := rev_succ hih
  have hw : okR p[i] h[i] = true → IntKind.i64.wrap (m120 c p h i + cond (wOk (cellA p[i] 0).toI (cellA h[i] 0).toI c) (wI (cellA p[i] 0).toI (cellA h[i] 0).toI c) 0) = m120 c p h (i + 1) := fun hr => by
    obtain ⟨_, w2, w3⟩ := w_at h0 h1 hr
    rw [hms]
    change IntKind.i64.wrap (m120 c p h i + wAt [.int .i64 0, .int .i64 c] p[i] h[i]) = _
    exact wrap_fits (by omega) (by omega)
  have hA := aN_succ c i
  have hAl : (aN c i ++ [[DV.int .i64 0, DV.int .i64 c]]).length ≤ 1000000 := by rw [← hA, aN_len]; omega
  have hsucc := wrap_succ (i := i) (by omega)
  have one1 : ∀ e : List DV, okRow z1 e = true → ([e].all fun (e : List DV) => e.length == 1 && e.all DV.one) = true := fun e he => allOne (fun x hx => by rw [List.mem_singleton.1 hx]; exact he)
  have rm : ∀ (l : List (List DV)) (e : List DV), l.length ≤ 1000 → okRow z1 e = true → decide ((l.length + 1) * 8 ≤ room ∧ l.length + 1 ≤ room ∧ ([e].all fun (e : List DV) => e.length == 1 && e.all DV.one) = true) = true := fun l e hl he => decide_eq_true ⟨by unfold room; omega, by unfold room; omega, one1 e he⟩
  by_cases hi0 : i = 0
  · subst hi0
    have hm0 : m120 c p h 0 = 0 := rfl
    rw [P0, s120n]
    simp only [lt_dec hi, look_nat hi, look_nat hih, hzz, hzz2, cond_true]
    cases hr : okR p[0] h[0] with
    | false => exact bad4 (of_decide_eq_false hr)
    | true =>
      refine (good4 (of_decide_eq_true hr)).trans ((need_pos nW).trans ?_)
      have hw := hw hr
      rw [hm0] at hw
      rw [hw, hsucc, eta1 z1', eta1 z2', cond_true, P1, rP, rH]
      rfl
  · by_cases hi1 : i = 1
    · subst hi1
      obtain ⟨x, hx⟩ := okRow_form (hp _ (List.getElem_mem (show 0 < p.length by omega))).1
      obtain ⟨y, hy⟩ := okRow_form (hh _ (List.getElem_mem (show 0 < h.length by omega))).1
      have e1 : (p.take 1).reverse = [[DV.int .i64 x]] := by rw [rev_succ (show 0 < p.length by omega), hx]; rfl
      have e2 : (h.take 1).reverse = [[DV.int .i64 y]] := by rw [rev_succ (show 0 < h.length by omega), hy]; rfl
      rw [P1, e1, e2, s120o]
      simp only [lt_dec hi, look_nat hi, look_nat hih, hzz, hzz2, cond_true]
      cases hr : okR p[1] h[1] with
      | false => exact bad4 (of_decide_eq_false hr)
      | true =>
        refine (good4 (of_decide_eq_true hr)).trans ((need_pos nW).trans ?_)
        rw [hw hr, hsucc, eta1 z1', eta1 z2', cond_true, room2 hAl, cond_true, Peven p h c (show 1 + 1 ≠ 0 by omega) (by omega), rP, rH, e1, e2, hA]
        rfl
    · have hP0 : decide ((p.take i).reverse.length = 0) = false := decide_eq_false (by rw [List.length_reverse, hlt]; omega)
      have hH0 : decide ((h.take i).reverse.length = 0) = false := decide_eq_false (by rw [List.length_reverse, hlt2]; omega)
      have hPl : (p.take i).reverse.length ≤ 1000 := by rw [List.length_reverse, hlt]; omega
      have hHl : (h.take i).reverse.length ≤ 1000 := by rw [List.length_reverse, hlt2]; omega
      by_cases hi2 : i % 2 = 1
      · rw [Podd p h c hi1 hi2, s120d]
        simp only [lt_dec hi, look_nat hi, look_nat hih, hzz, hzz2, cond_true]
        cases hr : okR p[i] h[i] with
        | false => exact bad4 (of_decide_eq_false hr)
        | true =>
          refine (good4 (of_decide_eq_true hr)).trans ((need_pos nW).trans ?_)
          rw [hw hr, hsucc, eta1 z1', eta1 z2', cond_true, room2 hAl, cond_true, hP0, cond_false, allOne hP, cond_true, rm _ _ hPl z1', cond_true, hH0, cond_false, allOne hH, cond_true, rm _ _ hHl z2', cond_true, Peven p h c (show i + 1 ≠ 0 by omega) (by omega), rP, rH, hA]
          rfl
      · rw [Peven p h c hi0 (by omega), s120e]
        simp only [lt_dec hi, look_nat hi, look_nat hih, hzz, hzz2, cond_true]
        cases hr : okR p[i] h[i] with
        | false => exact bad4 (of_decide_eq_false hr)
        | true =>
          refine (good4 (of_decide_eq_true hr)).trans ((need_pos nW).trans ?_)
          rw [hw hr, hsucc, eta1 z1', eta1 z2', cond_true, room2 hAl, cond_true, hP0, cond_false, allOne hP, cond_true, rm _ _ hPl z1', cond_true, hH0, cond_false, allOne hH, cond_true, rm _ _ hHl z2', cond_true, Podd p h c (show i + 1 ≠ 1 by omega) (by omega), rP, rH, hA]
          rfl
theorem loop120 (L n : Nat) : ∀ r, (X120 p h c).val = some r → LoopOk (LB tab spY lp12 L (n+4) h120 c12l0) (S120 p h c (.d .nilsl) (.d .nilsl) (.d .nilsl) 0 0 [(90, none), (97, none), (104, none), (50090, none)]) r := by
  intro r hr
  refine loop_meas (fun i : Nat => P120 p h c i) (fun i => p.length - i) (fun i => i ≤ p.length ∧ allB (okP p h) = allB ((okP p h).drop i) ∧ allB (okP (p.take i) (h.take i)) = true) (fun _ => r) (fun i hs => ?_) 0 ⟨Nat.zero_le _, by rw [List.drop_zero], rfl⟩
  obtain ⟨k1, k2, k3⟩ := hs
  by_cases hi : i < p.length
  · have hih : i < h.length := by omega
    have hst := step120 h0 h1 hp hh hl h6 L n hi k3
    cases hc : okR p[i] h[i] with
    | true =>
      left
      refine ⟨i + 1, ⟨hi, ?_, ok_i k3 hl hi hih hc⟩, by omega, rfl, fun k => by rw [hst, hc]; rfl⟩
      rw [k2, ok_drop hi hih, hc, Bool.true_and]
    | false =>
      right
      have : r = (.ret, R120) := by
        rw [ok_drop hi hih, hc, Bool.false_and] at k2
        unfold X120 at hr
        rw [k2] at hr
        simp only [LR.val, cond_false, Option.some.injEq] at hr
        exact hr.symm
      subst this
      exact ⟨by simp, fun k => by rw [hst, hc]; rfl⟩
  · right
    have : i = p.length := by omega
    subst this
    have hol : (okP p h).length = p.length := by simp [okP, hl]
    have hall : allB (okP p h) = true := by rw [k2, ← hol, List.drop_length]; rfl
    unfold X120 at hr
    rw [hall] at hr
    simp only [LR.val, cond_true] at hr
    have hpt : p.take p.length = p := List.take_length
    have hht : h.take p.length = h := by rw [← hl, List.take_length]
    have hm : m120 c p h p.length = sumZ (wl c p h) := by unfold m120; rw [hpt, hht]
    have hf : decide (((p.length : Nat) : Int) < (p.length : Int)) = false := decide_eq_false (by omega)
    refine ⟨?_, fun k => ?_⟩
    · revert hr
      cases decide (p.length = 0) <;> cases decide (p.length = 1) <;> cases decide (p.length % 2 = 1) <;> intro hr <;> simp only [cond_true, cond_false, Option.some.injEq] at hr <;> subst hr <;> simp
    · by_cases e0 : p.length = 0
      · rw [decide_eq_true e0, cond_true, Option.some.injEq] at hr
        subst hr
        have : P120 p h c p.length = S120 p h c (.d .nilsl) (.d .nilsl) (.d .nilsl) 0 ((p.length : Nat) : Int) [(90, none), (97, none), (104, none), (50090, none)] := by
          unfold P120
          rw [decide_eq_true e0]
          rfl
        simp only [this]
        rw [s120n, hf]
        rfl
      · by_cases e1 : p.length = 1
        · rw [decide_eq_false e0, decide_eq_true e1, cond_true, cond_false, Option.some.injEq] at hr
          subst hr
          obtain ⟨x, hx⟩ := okRow_form (hp _ (List.getElem_mem (show 0 < p.length by omega))).1
          obtain ⟨y, hy⟩ := okRow_form (hh _ (List.getElem_mem (show 0 < h.length by omega))).1
          have q1 : p.reverse = [[DV.int .i64 x]] := by
            have := rev_succ (show 0 < p.length by omega)
            rw [hx, Nat.zero_add, ← e1, hpt] at this
            exact this
          have q2 : h.reverse = [[DV.int .i64 y]] := by
            have := rev_succ (show 0 < h.length by omega)
            rw [hy, Nat.zero_add, ← e1, hht] at this
            exact this
          have : P120 p h c p.length = S120 p h c (.aref 90 2 0 (aN c p.length).length) (.d (.sl .tight 1 [[.int .i64 x]])) (.d (.sl .tight 1 [[.int .i64 y]])) (sumZ (wl c p h)) ((p.length : Nat) : Int) [(90, some (.dat 40 2 (aN c p.length))), (97, none), (104, none), (50090, none)] := by
            unfold P120
            rw [decide_eq_false e0, decide_eq_true e1, hpt, hht, hm, q1, q2]
            rfl
          simp only [this]
          rw [s120o, hf, q1, q2]
          rfl
        · by_cases e2 : p.length % 2 = 1
          · rw [decide_eq_false e0, decide_eq_false e1, decide_eq_true e2, cond_true, cond_false, cond_false, Option.some.injEq] at hr
            subst hr
            simp only [Podd p h c e1 e2]
            rw [s120d, hf, hpt, hht, hm]
            rfl
          · rw [decide_eq_false e0, decide_eq_false e1, decide_eq_false e2, cond_false, cond_false, cond_false, Option.some.injEq] at hr
            subst hr
            simp only [Peven p h c e0 (show p.length % 2 = 0 by omega)]
            rw [s120e, hf, hpt, hht, hm]
            rfl
end
end Go.Proofs.Ytianifckopijjaa
