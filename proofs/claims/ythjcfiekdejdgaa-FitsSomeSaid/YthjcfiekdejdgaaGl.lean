/- What the reference tells of one's own shortness: it is what Short finds. No condition. -/
import Derived.Test.YthjcfiekdejdgaaGk
namespace Go.Proofs.Ythjcfiekdejdgaa
open Go Go.Proofs Go.RowKit Vm
set_option linter.unusedVariables false
set_option linter.unusedSimpArgs false
theorem PO.dF {n : Nat} {e : List DV} (h : PO n e) (i k : Int) : 0 ≤ dF i k e ∧ dF i k e ≤ 1099511627776 := by
  have := h.a0
  have := h.a1
  unfold Go.Proofs.Ythjcfiekdejdgaa.dF
  split <;> omega
theorem PO.dP {n : Nat} {e : List DV} (h : PO n e) (i : Int) : 0 ≤ dP i e ∧ dP i e ≤ 1099511627776 := by
  have := h.a0
  have := h.a1
  unfold Go.Proofs.Ythjcfiekdejdgaa.dP
  split <;> omega
theorem PO.dR {n : Nat} {e : List DV} (h : PO n e) (i : Int) : 0 ≤ dR i e ∧ dR i e ≤ 1099511627776 := by
  have := h.a0
  have := h.a1
  unfold Go.Proofs.Ythjcfiekdejdgaa.dR
  split <;> omega
theorem take_b {n : Nat} {l : List (List DV)} (hl : l.length ≤ 1000) (hp : ∀ e ∈ l, PO n e) {φ : List DV → Int} (hφ : ∀ e, PO n e → 0 ≤ φ e ∧ φ e ≤ 1099511627776) (j : Nat) : 0 ≤ sumL φ (l.take j) ∧ sumL φ (l.take j) ≤ 1099511627776000 := by
  have hlen : (l.take j).length ≤ 1000 := by rw [List.length_take]; omega
  have h1 := po_bounds hlen (fun e he => hp e (List.mem_of_mem_take he)) φ fun e he => by have := hφ e he; omega
  exact ⟨sumL_nonneg fun e he => (hφ e (hp e (List.mem_of_mem_take he))).1, h1.2⟩
theorem loop440 (L m : Nat) {n : Nat} {l : List (List DV)} (hl : l.length ≤ 1000) (hp : ∀ e ∈ l, PO n e) (i k : Int) :
    LoopOk (LB tab noSp lJ L (m+4) h440 c44l0) (S440 l i k 0 0) (.ex 0, St.of [(7, .d (.int .i64 (sumL (dF i k) l)))] []) := by
  have h0 : S440 l i k 0 0 = S440 l i k (sumL (dF i k) (l.take 0)) ((0 : Nat) : Int) := rfl
  rw [h0]
  refine loop_meas (fun j : Nat => S440 l i k (sumL (dF i k) (l.take j)) (j : Nat)) (fun j => l.length - j) (fun j => j ≤ l.length) (fun _ => (.ex 0, St.of [(7, .d (.int .i64 (sumL (dF i k) l)))] [])) (fun j hs => ?_) 0 (Nat.zero_le _)
  by_cases hj : j < l.length
  · left
    refine ⟨j + 1, hj, by omega, rfl, fun K => ?_⟩
    have hP := hp _ (List.getElem_mem hj)
    have b := take_b hl hp (φ := dF i k) (fun e he => he.dF i k) j
    have a0 := hP.a0
    have a1 := hP.a1
    have e1 : (cellA l[j] 1).toI = pF l[j] := rfl
    have e2 : (cellA l[j] 2).toI = pT l[j] := rfl
    have e3 : (cellA l[j] 3).toI = pA l[j] := rfl
    rw [sumL_take hj, s440, lt_dec hj, cond_true, wrap_succ (by omega)]
    simp only [look_nat hj, hP.z, cond_true, e1, e2, e3]
    have hd : dF i k l[j] = if pF l[j] = i ∧ pT l[j] = k then pA l[j] else 0 := rfl
    rw [hd]
    cases h1 : (pF l[j] == i) with
    | false =>
      rw [if_neg fun h => (beq_eq_false_iff_ne.1 h1) h.1, Int.add_zero]
      rfl
    | true =>
      cases h2 : (pT l[j] == k) with
      | false =>
        rw [if_neg fun h => (beq_eq_false_iff_ne.1 h2) h.2, Int.add_zero]
        rfl
      | true =>
        rw [if_pos ⟨eq_of_beq h1, eq_of_beq h2⟩, wrap_fits (by omega) (by omega)]
        rfl
  · right
    have : j = l.length := by omega
    subst this
    refine ⟨by simp, fun K => ?_⟩
    rw [s440, lt_dec_self, List.take_length]
    rfl
theorem sent44 : sentS.ok Try.prog 44 := fun ds r hD hv => by
  obtain ⟨n, l, i, k, rfl, hl, hp⟩ := hD
  cases hv
  exact spec_run (lsp := lJ) tab_ok noSp_ok 20 (0 + 8) ((t44 0 l i k).trans (need_pos (loop440 20 (0 + 4) hl hp i k)))
theorem loop420 (L m : Nat) {n : Nat} {l : List (List DV)} (hl : l.length ≤ 1000) (hp : ∀ e ∈ l, PO n e) (i : Int) :
    LoopOk (LB tab noSp lJ L (m+4) h420 c42l0) (S420 l i 0 0 0) (.ex 0, St.of [(6, .d (.int .i64 (sumL (dP i) l))), (7, .d (.int .i64 (sumL (dR i) l)))] []) := by
  have h0 : S420 l i 0 0 0 = S420 l i (sumL (dP i) (l.take 0)) (sumL (dR i) (l.take 0)) ((0 : Nat) : Int) := rfl
  rw [h0]
  refine loop_meas (fun j : Nat => S420 l i (sumL (dP i) (l.take j)) (sumL (dR i) (l.take j)) (j : Nat)) (fun j => l.length - j) (fun j => j ≤ l.length) (fun _ => (.ex 0, St.of [(6, .d (.int .i64 (sumL (dP i) l))), (7, .d (.int .i64 (sumL (dR i) l)))] [])) (fun j hs => ?_) 0 (Nat.zero_le _)
  by_cases hj : j < l.length
  · left
    refine ⟨j + 1, hj, by omega, rfl, fun K => ?_⟩
    have hP := hp _ (List.getElem_mem hj)
    have b := take_b hl hp (φ := dP i) (fun e he => he.dP i) j
    have b' := take_b hl hp (φ := dR i) (fun e he => he.dR i) j
    have a0 := hP.a0
    have a1 := hP.a1
    have e1 : (cellA l[j] 1).toI = pF l[j] := rfl
    have e2 : (cellA l[j] 4).toI = pC l[j] := rfl
    have e3 : (cellA l[j] 3).toI = pA l[j] := rfl
    rw [sumL_take hj, sumL_take hj, s420, lt_dec hj, cond_true, wrap_succ (by omega)]
    simp only [look_nat hj, hP.z, cond_true, e1, e2, e3]
    have hd : dP i l[j] = if pF l[j] = i ∧ pC l[j] = 3 then pA l[j] else 0 := rfl
    have hd' : dR i l[j] = if pF l[j] = i ∧ pC l[j] ≠ 3 then pA l[j] else 0 := rfl
    rw [hd, hd']
    cases h1 : (pF l[j] != i) with
    | true =>
      rw [if_neg fun h => (bne_iff_ne.1 h1) h.1, if_neg fun h => (bne_iff_ne.1 h1) h.1, Int.add_zero, Int.add_zero]
      rfl
    | false =>
      have h1' := bne_eq_false_iff_eq.1 h1
      cases h2 : (pC l[j] == 3) with
      | false =>
        have h2' := beq_eq_false_iff_ne.1 h2
        rw [if_neg fun h => h2' h.2, if_pos ⟨h1', h2'⟩, Int.add_zero, wrap_fits (n := sumL (dR i) (l.take j) + pA l[j]) (by omega) (by omega)]
        rfl
      | true =>
        have h2' := eq_of_beq h2
        rw [if_pos ⟨h1', h2'⟩, if_neg fun h => h.2 h2', Int.add_zero, wrap_fits (by omega) (by omega)]
        rfl
  · right
    have : j = l.length := by omega
    subst this
    refine ⟨by simp, fun K => ?_⟩
    rw [s420, lt_dec_self, List.take_length]
    rfl
theorem cls42 : clsS.ok Try.prog 42 := fun ds r hD hv => by
  obtain ⟨n, l, i, rfl, hl, hp⟩ := hD
  cases hv
  exact spec_run (lsp := lJ) tab_ok noSp_ok 20 (0 + 8) ((t42 0 l i).trans (need_pos (loop420 20 (0 + 4) hl hp i)))
theorem netR43 : netR.ok Try.prog 43 := fun ds r hD hv => by
  obtain ⟨ac, bs, ms, qs, i, rfl, hB, hi⟩ := hD
  exact net43 _ r (hB.net hi).1 hv
theorem spK_ok : ∀ f s, spK f = some s → s.ok Try.prog f := spAdd_ok sent44 (spAdd_ok cls42 (spAdd_ok netR43 noSp_ok))
/-! ### sums -/
theorem sumL_add {φ ψ : List DV → Int} : ∀ l : List (List DV), sumL (fun e => φ e + ψ e) l = sumL φ l + sumL ψ l
  | [] => rfl
  | e :: l => by
    have := sumL_add (φ := φ) (ψ := ψ) l
    simp only [sumL]
    omega
theorem sumL_sub {φ ψ : List DV → Int} : ∀ l : List (List DV), sumL (fun e => φ e - ψ e) l = sumL φ l - sumL ψ l
  | [] => rfl
  | e :: l => by
    have := sumL_sub (φ := φ) (ψ := ψ) l
    simp only [sumL]
    omega
theorem sumL_congr {φ ψ : List DV → Int} : ∀ {l : List (List DV)}, (∀ e ∈ l, φ e = ψ e) → sumL φ l = sumL ψ l
  | [], _ => rfl
  | e :: l, h => by
    simp only [sumL]
    rw [h e (by simp), sumL_congr fun r hr => h r (List.mem_cons.2 (.inr hr))]
theorem sumL_zero : ∀ l : List (List DV), sumL (fun _ => 0) l = 0
  | [] => rfl
  | e :: l => by simp only [sumL, sumL_zero l]; rfl
theorem sumN_congr {g h : Nat → Int} : ∀ {n : Nat}, (∀ k, k < n → g k = h k) → sumN g n = sumN h n
  | 0, _ => rfl
  | n + 1, e => by
    simp only [sumN]
    rw [sumN_congr fun k hk => e k (by omega), e n (by omega)]
theorem sumN_sub {g h : Nat → Int} : ∀ n : Nat, sumN (fun k => g k - h k) n = sumN g n - sumN h n
  | 0 => rfl
  | n + 1 => by
    have := sumN_sub (g := g) (h := h) n
    simp only [sumN]
    omega
theorem sumN_sumL {φ : Nat → List DV → Int} (l : List (List DV)) : ∀ n : Nat, sumN (fun k => sumL (φ k) l) n = sumL (fun e => sumN (fun k => φ k e) n) l
  | 0 => (sumL_zero l).symm
  | n + 1 => by
    simp only [sumN]
    rw [sumN_sumL l n, sumL_add]
theorem sumN_one (a c : Int) : ∀ n : Nat, sumN (fun k => if a = (k : Int) then c else 0) n = if 0 ≤ a ∧ a < n then c else 0
  | 0 => by
    rw [if_neg (by omega)]
    rfl
  | n + 1 => by
    simp only [sumN]
    rw [sumN_one a c n]
    split <;> split <;> split <;> omega
theorem sumR_append (a b : List (List DV)) : sumR (a ++ b) = sumR a + sumR b := by
  induction a with
  | nil => simp [sumR]
  | cons x a ih =>
    simp only [List.cons_append, sumR, ih]
    omega
theorem sumR_cells (g : Nat → Int) : ∀ n : Nat, sumR (cells n g) = sumN g n
  | 0 => rfl
  | n + 1 => by
    have h : cells (n + 1) g = cells n g ++ [[.int .i64 (g n)]] := by
      unfold cells
      rw [List.range_succ, List.map_append]
      rfl
    rw [h, sumR_append, sumR_cells g n]
    simp only [sumN, sumR, Int.add_zero]
    rfl
theorem sumL_pos {φ : List DV → Int} : ∀ {l : List (List DV)}, (∀ e ∈ l, 0 ≤ φ e) → (0 < sumL φ l ↔ ∃ e ∈ l, 0 < φ e)
  | [], _ => by simp [sumL]
  | e :: l, h => by
    have h1 := h e (by simp)
    have ih := sumL_pos (φ := φ) (l := l) fun r hr => h r (List.mem_cons.2 (.inr hr))
    have h2 : 0 ≤ sumL φ l := sumL_nonneg fun r hr => h r (List.mem_cons.2 (.inr hr))
    simp only [sumL, List.mem_cons, exists_eq_or_imp]
    rw [← ih]
    omega
theorem allF_of {q : Nat → Bool} : ∀ {c i : Nat}, (∀ j, i ≤ j → j < i + c → q j = true) → allF q c i = true
  | 0, _, _ => rfl
  | c + 1, i, h => by
    show (q i && allF q c (i + 1)) = true
    rw [h i (by omega) (by omega), Bool.true_and]
    exact allF_of fun j h1 h2 => h j (by omega) (by omega)
theorem allF_not {q : Nat → Bool} {n : Nat} : allF (fun k => !q k) n 0 = false ↔ ∃ k, k < n ∧ q k = true := by
  constructor
  · intro h
    refine Classical.byContradiction fun hn => ?_
    have : allF (fun k => !q k) n 0 = true := allF_of fun j _ h2 => by
      cases hq : q j with
      | false => rfl
      | true => exact absurd ⟨j, by omega, hq⟩ hn
    rw [this] at h
    cases h
  · rintro ⟨k, h1, h2⟩
    refine Bool.eq_false_iff.2 fun h => ?_
    have := allF_at h k (Nat.zero_le _) (by omega)
    rw [h2] at this
    cases this
theorem dQ_dd (l : List (List DV)) (i t : Nat) : sumL (dQ i t) l = ddI l i t := (sumL_sub (φ := dF i t) (ψ := dF t i) l).symm ▸ rfl
/-- what one sends, and gets, in all -/
theorem dM_dd {n : Nat} {l : List (List DV)} (hp : ∀ e ∈ l, PO n e) {i : Nat} (hi : i < n) : sumL (dM i) l = 0 - sumN (fun k => ddI l i k) n := by
  have h1 : sumN (fun k : Nat => sumL (dF i k) l) n = sumL (fun e => if pF e = i then pA e else 0) l := by
    rw [sumN_sumL]
    refine sumL_congr fun e he => ?_
    have hP := hp e he
    have h0 := hP.t0
    have h1 := hP.t1
    by_cases hf : pF e = (i : Int)
    · rw [if_pos hf, sumN_congr (h := fun k : Nat => if pT e = (k : Int) then pA e else 0) fun k _ => by simp only [dF, hf, true_and], sumN_one, if_pos ⟨h0, h1⟩]
    · rw [if_neg hf, sumN_congr (h := fun k : Nat => if (-1 : Int) = (k : Int) then pA e else 0) fun k _ => by simp only [dF, hf, false_and, if_false]; rw [if_neg (by omega)], sumN_one, if_neg (by omega)]
  have h2 : sumN (fun k : Nat => sumL (dF k i) l) n = sumL (fun e => if pT e = i then pA e else 0) l := by
    rw [sumN_sumL]
    refine sumL_congr fun e he => ?_
    have hP := hp e he
    have h0 := hP.f0
    have h1 := hP.f1
    by_cases hf : pT e = (i : Int)
    · rw [if_pos hf, sumN_congr (h := fun k : Nat => if pF e = (k : Int) then pA e else 0) fun k _ => by simp only [dF, hf, and_true], sumN_one, if_pos ⟨h0, h1⟩]
    · rw [if_neg hf, sumN_congr (h := fun k : Nat => if (-1 : Int) = (k : Int) then pA e else 0) fun k _ => by simp only [dF, hf, and_false, if_false]; rw [if_neg (by omega)], sumN_one, if_neg (by omega)]
  have h3 : sumN (fun k : Nat => ddI l i k) n = sumN (fun k : Nat => sumL (dF i k) l) n - sumN (fun k : Nat => sumL (dF k i) l) n := sumN_sub n
  have h4 : sumL (dM i) l = sumL (fun e => if pT e = i then pA e else 0) l - sumL (fun e => if pF e = i then pA e else 0) l := sumL_sub l
  rw [h3, h4, h1, h2]
  omega
theorem any_iff' {φ : List DV → Bool} {l : List (List DV)} : l.any φ = true ↔ ∃ e ∈ l, φ e = true := List.any_eq_true
/-- does one send? -/
theorem sends_iff {n : Nat} {l : List (List DV)} (hp : ∀ e ∈ l, PO n e) (i : Nat) : l.any (clB (k30 (i : Nat))) = !(sumL (dP i) l + sumL (dR i) l == 0) := by
  have h1 : sumL (dP i) l + sumL (dR i) l = sumL (fun e => dP i e + dR i e) l := (sumL_add l).symm
  have hn : ∀ e ∈ l, 0 ≤ dP i e + dR i e := fun e he => by
    have := (hp e he).dP i
    have := (hp e he).dR i
    omega
  have h0 := sumL_nonneg hn
  have hpos := sumL_pos hn
  have key : (l.any (clB (k30 (i : Nat))) = true) ↔ 0 < sumL (fun e => dP i e + dR i e) l := by
    rw [hpos, any_iff']
    refine exists_congr fun e => and_congr_right fun he => ?_
    have a0 := (hp e he).a0
    show (pF e == (i : Int)) = true ↔ _
    rw [beq_iff_eq]
    unfold dP dR
    by_cases hf : pF e = (i : Int)
    · by_cases hc : pC e = 3
      · rw [if_pos ⟨hf, hc⟩, if_neg fun h => h.2 hc]
        omega
      · rw [if_neg fun h => hc h.2, if_pos ⟨hf, hc⟩]
        omega
    · rw [if_neg fun h => hf h.1, if_neg fun h => hf h.1]
      omega
  rw [h1]
  cases ha : l.any (clB (k30 (i : Nat))) with
  | true =>
    have := key.1 ha
    rw [show (sumL (fun e => dP i e + dR i e) l == 0) = false from beq_eq_false_iff_ne.2 (by omega)]
    rfl
  | false =>
    have : ¬ 0 < sumL (fun e => dP i e + dR i e) l := fun h => by rw [key.2 h] at ha; cases ha
    rw [show (sumL (fun e => dP i e + dR i e) l) = 0 by omega]
    rfl
/-- by which payment is one short? -/
theorem eB_iff {ac bs ms qs l : List (List DV)} (hp : ∀ e ∈ l, PO ac.length e) {i : Nat} (hi : i < ac.length) :
    l.any (eB ac bs qs l i) = ((decide (sumL (dP i) l > 0) && decide (roI ac l i < keptI (aci ac i 2) (sumL (dS i) l))) || !allF (fun k => !limK bs qs l i k) ac.length 0) := by
  refine Bool.eq_iff_iff.2 ?_
  rw [any_iff', Bool.or_eq_true, Bool.not_eq_true', allF_not, Bool.and_eq_true, decide_eq_true_eq, decide_eq_true_eq]
  have hP := sumL_pos (φ := dP i) (l := l) fun e he => ((hp e he).dP i).1
  constructor
  · rintro ⟨e, he, h⟩
    have hPo := hp e he
    unfold eB at h
    obtain ⟨hf, h⟩ := Bool.and_eq_true_iff.1 h
    have hf := eq_of_beq hf
    rcases (Bool.or_eq_true_iff).1 h with h | h
    · obtain ⟨h1, h2⟩ := Bool.and_eq_true_iff.1 h
      refine .inl ⟨hP.2 ⟨e, he, ?_⟩, of_decide_eq_true h2⟩
      unfold dP
      rw [if_pos ⟨hf, eq_of_beq h1⟩]
      have := hPo.a0
      omega
    · obtain ⟨h1, h2⟩ := Bool.and_eq_true_iff.1 h
      obtain ⟨t, ht⟩ : ∃ t : Nat, pT e = (t : Nat) := ⟨(pT e).toNat, by have := hPo.t0; omega⟩
      have htn : t < ac.length := by have := hPo.t1; omega
      refine .inr ⟨t, htn, ?_⟩
      unfold limK
      rw [ht, Int.toNat_natCast] at h1 h2
      rw [dQ_dd] at h2
      have hs : 0 < sumL (dF i t) l := (sumL_pos fun e he => ((hp e he).dF i t).1).2 ⟨e, he, by
        unfold dF
        rw [if_pos ⟨hf, ht⟩]
        have := hPo.a0
        omega⟩
      rw [decide_eq_true hs, cond_true, h1, cond_true]
      exact h2
  · rintro (⟨h1, h2⟩ | ⟨k, hk, h⟩)
    · obtain ⟨e, he, h3⟩ := hP.1 h1
      refine ⟨e, he, ?_⟩
      unfold dP at h3
      split at h3
      · rename_i h4
        unfold eB
        rw [h4.1, h4.2, decide_eq_true h2]
        simp
      · omega
    · unfold limK at h
      cases h1 : decide (sumL (dF i k) l > 0) with
      | false => rw [h1] at h; cases h
      | true =>
        rw [h1, cond_true] at h
        obtain ⟨e, he, h3⟩ := (sumL_pos fun e he => ((hp e he).dF i k).1).1 (of_decide_eq_true h1)
        refine ⟨e, he, ?_⟩
        unfold dF at h3
        split at h3
        · rename_i h4
          unfold eB
          rw [h4.1, h4.2, Int.toNat_natCast, dQ_dd]
          cases h5 : (at2 bs i k != -1) with
          | false => rw [h5] at h; cases h
          | true =>
            rw [h5, cond_true] at h
            rw [h]
            simp
        · omega
end Go.Proofs.Ythjcfiekdejdgaa
