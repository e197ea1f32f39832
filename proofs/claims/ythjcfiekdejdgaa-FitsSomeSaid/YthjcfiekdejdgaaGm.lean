/- What the reference tells of one's own shortness, by the run. No condition. -/
import Derived.Test.YthjcfiekdejdgaaGl
namespace Go.Proofs.Ythjcfiekdejdgaa
open Go Go.Proofs Go.RowKit Vm
set_option linter.unusedVariables false
set_option linter.unusedSimpArgs false
theorem sumN_b {g : Nat → Int} {B : Int} : ∀ {n : Nat}, (∀ k, k < n → -B ≤ g k ∧ g k ≤ B) → -(B * (n : Int)) ≤ sumN g n ∧ sumN g n ≤ B * (n : Int)
  | 0, _ => by simp [sumN]
  | n + 1, h => by
    have h1 := h n (by omega)
    have h2 := sumN_b (g := g) (B := B) (n := n) fun k hk => h k (by omega)
    simp only [sumN]
    rw [show (((n + 1 : Nat)) : Int) = (n : Int) + 1 by omega, Int.mul_add, Int.mul_one]
    omega
theorem dd_b {n : Nat} {l : List (List DV)} (hl : l.length ≤ 1000) (hp : ∀ e ∈ l, PO n e) (i k : Int) : -1099511627776000 ≤ ddI l i k ∧ ddI l i k ≤ 1099511627776000 := by
  have h1 := take_b hl hp (φ := dF i k) (fun e he => he.dF i k) l.length
  have h2 := take_b hl hp (φ := dF k i) (fun e he => he.dF k i) l.length
  rw [List.take_length] at h1 h2
  unfold ddI
  omega
theorem loop320 (L m : Nat) {ac bs ms qs l : List (List DV)} (hB : BK ac bs ms qs) (hl : l.length ≤ 1000) (hp : ∀ e ∈ l, PO ac.length e) {i : Nat} (hi : i < ac.length) (p s n net : Int)
    (hn : -8000000000000000000 ≤ n ∧ n ≤ 8000000000000000000) (hnet : -8000000000000000000 ≤ net ∧ net ≤ 8000000000000000000) :
    LoopOk (LB tab spK lK L (m+4) h320 c32l0) (S320 l i (bk ac bs ms qs) p s n net 0)
      (cond (allF (fun k => !limK bs qs l i k) ac.length 0) (.ex 0, E320 i (bk ac bs ms qs) p s (n - sumN (fun k => ddI l i k) ac.length) (net + sumN (fun k => ddI l i k) ac.length)) (.ret, St.of [(6, .d (.bool true))] [])) := by
  have h6 := hB.n6
  have hdd : ∀ k : Nat, k ≤ 6 → -7000000000000000 ≤ sumN (fun k => ddI l i k) k ∧ sumN (fun k => ddI l i k) k ≤ 7000000000000000 := fun k hk => by
    have := sumN_b (g := fun k => ddI l i k) (B := 1099511627776000) (n := k) fun j _ => dd_b hl hp i j
    omega
  have h0 : S320 l i (bk ac bs ms qs) p s n net 0 = S320 l i (bk ac bs ms qs) p s (n - sumN (fun k => ddI l i k) 0) (net + sumN (fun k => ddI l i k) 0) ((0 : Nat) : Int) := by
    simp only [sumN, Int.sub_zero, Int.add_zero]
    rfl
  rw [h0]
  refine loop_allF (fun k : Nat => S320 l i (bk ac bs ms qs) p s (n - sumN (fun k => ddI l i k) k) (net + sumN (fun k => ddI l i k) k) (k : Nat)) _ ac.length _ _ (by simp) (by simp) (fun k hk K => ?_) (fun K => ?_)
  · have eb : i < bs.length := by rw [hB.lb]; exact hi
    have eq : i < qs.length := by rw [hB.lq]; exact hi
    have ebt : k < (rw bs i).length := by rw [hB.rb i hi]; exact hk
    have eqt : k < (rw qs i).length := by rw [hB.rq i hi]; exact hk
    have hS : ∀ a b : Int, sentS.D [.sla false 7 l, .int .i64 a, .int .i64 b] := fun a b => ⟨ac.length, l, a, b, rfl, hl, hp⟩
    have b0 := hdd k (by omega)
    have b1 := dd_b hl hp i k
    have bq := hB.cq i k hi hk
    have ed : sumL (dF (i : Int) (k : Int)) l - sumL (dF (k : Int) (i : Int)) l = ddI l i k := rfl
    have e1 : ∀ e : List DV, (cellA e 0).toI = cel e := fun _ => rfl
    have e2 : ∀ (a : List (List DV)) (x y : Nat), cel ((rw a x)[y]?.getD []) = at2 a x y := fun _ _ _ => rfl
    rw [s320, lt_dec hk, cond_true, need_pos (hS _ _), need_pos (hS _ _), need_pos (hS _ _), wrap_succ (by omega)]
    simp only [ed, look2 hB.t.b eb ebt, look2 hB.t.q eq eqt, e1, e2]
    rw [wrap_fits (n := ddI l i k) (by omega) (by omega), wrap_fits (n := at2 qs i k + ddI l i k) (by omega) (by omega), wrap_fits (n := n - sumN (fun k => ddI l i k) k - ddI l i k) (by omega) (by omega), wrap_fits (n := net + sumN (fun k => ddI l i k) k + ddI l i k) (by omega) (by omega)]
    have hs : S320 l i (bk ac bs ms qs) p s (n - sumN (fun k => ddI l i k) (k + 1)) (net + sumN (fun k => ddI l i k) (k + 1)) ((k + 1 : Nat) : Int) = S320 l i (bk ac bs ms qs) p s (n - sumN (fun k => ddI l i k) k - ddI l i k) (net + sumN (fun k => ddI l i k) k + ddI l i k) ((k + 1 : Nat) : Int) := by
      simp only [sumN]
      congr 1 <;> omega
    rw [hs]
    unfold limK
    cases decide (sumL (dF (i : Int) (k : Int)) l > 0) with
    | false => rfl
    | true =>
      cases (at2 bs i k != -1) with
      | false => rfl
      | true => cases decide (at2 qs i k + ddI l i k > at2 bs i k) <;> rfl
  · rw [s320, lt_dec_self]
    rfl
def rshS : FSpec where
  D ds := ∃ ac bs ms qs l i, ds = [.agg (bk ac bs ms qs), .sla false 7 l, .int .i64 ((i : Nat) : Int)] ∧ BK ac bs ms qs ∧ i < ac.length ∧ l.length ≤ 1000 ∧ ∀ e ∈ l, PO ac.length e
  val ds := match ds with | [.agg [.sla _ _ ac, .sla _ _ bs, .sla _ _ ms, .sla _ _ qs], .sla _ _ l, .int _ i] => some (.bool (shP ac bs ms qs l i.toNat)) | _ => none
theorem rsh32 : rshS.ok Try.prog 32 := fun ds r hD hv => by
  obtain ⟨ac, bs, ms, qs, l, i, rfl, hB, hi, hl, hp⟩ := hD
  cases hv
  rw [Int.toNat_natCast]
  refine spec_run (lsp := lK) tab_ok spK_ok 20 (0 + 12) ((t32 0 ac bs ms qs l i).trans ?_)
  have h6 := hB.n6
  have em : i < ms.length := by rw [hB.lm]; exact hi
  have hca := hB.ca i hi
  unfold isA at hca
  obtain ⟨c1, c2, c3, c4, c5, c6⟩ := hca
  obtain ⟨hnD, hnb⟩ := hB.net hi
  have bP := take_b hl hp (φ := dP i) (fun e he => he.dP i) l.length
  have bR := take_b hl hp (φ := dR i) (fun e he => he.dR i) l.length
  rw [List.take_length] at bP bR
  have hdd := sumN_b (g := fun k : Nat => ddI l i k) (B := 1099511627776000) (n := ac.length) fun j _ => dd_b hl hp i j
  refine (need_pos ⟨ac.length, l, i, rfl, hl, hp⟩).trans ?_
  rw [wrap_fits (n := sumL (dP i) l + sumL (dR i) l) (by omega) (by omega)]
  unfold shP
  rw [sends_iff hp i]
  cases hz : (sumL (dP i) l + sumL (dR i) l == 0) with
  | true => rfl
  | false =>
    rw [cond_false, Bool.not_false, Bool.true_and]
    have e0 : (cellA (ac[i]?.getD []) 0).toI = aci ac i 0 := rfl
    have e1 : (cellA (ac[i]?.getD []) 1).toI = aci ac i 1 := rfl
    have e2 : (cellA (ac[i]?.getD []) 2).toI = aci ac i 2 := rfl
    have e3 : (cellA (ms[i]?.getD []) 0).toI = at1 ms i := rfl
    have look3 := fun K => look1 hi hB.t.a K
    have lookm := fun K => look1 em (fun e he => (hB.t.m e he).1) K
    simp only [look3, lookm, e0, e1, e2, e3]
    rw [wrap_fits (n := aci ac i 0 + aci ac i 1) (by omega) (by omega), wrap_fits (n := aci ac i 2 - sumL (dR i) l) (by omega) (by omega)]
    refine (need_pos ⟨_, _, _, _, _, rfl, hB, hi⟩).trans ?_
    have hL := loop320 20 (0 + 8) hB hl hp hi (sumL (dP i) l) (sumL (dR i) l) (aci ac i 0 + aci ac i 1) (sumR (rw qs i)) (by omega) (by omega)
    have hro : aci ac i 0 + aci ac i 1 - sumN (fun k : Nat => ddI l i k) ac.length = roI ac l i := by
      unfold roI
      rw [dM_dd hp hi]
      omega
    have hne : sumR (rw qs i) + sumN (fun k : Nat => ddI l i k) ac.length = neI qs ac.length l i := by
      unfold neI
      rw [sumR_cells]
      congr 1
      exact sumN_congr fun k hk => (dQ_dd l i k).symm
    rw [hro, hne] at hL ⊢
    unfold shV
    rw [eB_iff (ms := ms) hp hi]
    have hds : sumL (dS i) l = sumL (dR i) l := rfl
    rw [hds]
    cases hA : allF (fun k => !limK bs qs l i k) ac.length 0 with
    | false =>
      rw [hA] at hL
      refine (need_pos hL).trans ?_
      simp
    | true =>
      rw [hA] at hL
      refine (need_pos hL).trans ?_
      cases hr : decide (roI ac l i < 0) with
      | true => cases decide (sumL (dP i) l > 0) <;> rfl
      | false =>
        cases decide (sumL (dP i) l > 0) with
        | false => cases (at1 ms i != -1) <;> cases decide (neI qs ac.length l i > at1 ms i) <;> rfl
        | true =>
          cases hx : decide (sumL (dR i) l ≥ aci ac i 2) with
          | true =>
            have hk : keptI (aci ac i 2) (sumL (dR i) l) = 0 := by unfold keptI; rw [hx]; rfl
            rw [hk, hr]
            cases (at1 ms i != -1) <;> cases decide (neI qs ac.length l i > at1 ms i) <;> rfl
          | false =>
            have hk : keptI (aci ac i 2) (sumL (dR i) l) = aci ac i 2 - sumL (dR i) l := by unfold keptI; rw [hx]; rfl
            rw [hk]
            cases (at1 ms i != -1) <;> cases decide (neI qs ac.length l i > at1 ms i) <;> cases decide (roI ac l i < aci ac i 2 - sumL (dR i) l) <;> rfl
end Go.Proofs.Ythjcfiekdejdgaa
