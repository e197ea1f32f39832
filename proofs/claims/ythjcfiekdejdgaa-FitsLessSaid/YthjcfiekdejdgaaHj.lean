/- FitsLess: the loops; who falls short stays so, if others send less. No condition. -/
import Derived.Test.YthjcfiekdejdgaaHi
namespace Go.Proofs.Ythjcfiekdejdgaa
open Go Go.Proofs Go.RowKit Vm
set_option linter.unusedVariables false
set_option linter.unusedSimpArgs false
theorem spL_ok : ∀ f s, spL f = some s → s.ok Try.prog f := spAdd_ok some19 (spAdd_ok row20 (spAdd_ok drop25 (spAdd_ok sho16 (spAdd_ok known18 noSp_ok))))
/-- what is left when some of others are gone -/
structure DM (who : Nat) (r m : List (List DV)) : Prop where
  sub : ∀ e ∈ m, e ∈ r
  nd : ND m
  len : m.length ≤ 40
  keep : ∀ e ∈ r, pF e = (who : Int) → e ∈ m
  sums : ∀ φ : List DV → Int, (∀ e ∈ r, pF e ≠ (who : Int) → 0 ≤ φ e) → sumL φ m ≤ sumL φ r
theorem sumL_del (φ : List DV → Int) {m : List (List DV)} {q : Nat} (hq : q < m.length) : sumL φ m = sumL φ (delB m q) + φ m[q] := by
  have h : m = m.take q ++ m[q] :: m.drop (q + 1) := by
    rw [← List.drop_eq_getElem_cons hq, List.take_append_drop]
  have h2 := congrArg (sumL φ) h
  rw [sumL_append] at h2
  unfold delB
  rw [sumL_append]
  simp only [sumL] at h2
  omega
theorem del_sub {m : List (List DV)} {q : Nat} (hq : q < m.length) : (delB m q).Sublist m := by
  have h : m = m.take q ++ m[q] :: m.drop (q + 1) := by
    rw [← List.drop_eq_getElem_cons hq, List.take_append_drop]
  have h2 : (delB m q).Sublist (m.take q ++ m[q] :: m.drop (q + 1)) := List.Sublist.append_left (List.sublist_cons_self _ _) _
  rw [← h] at h2
  exact h2
theorem DM.drop {who : Nat} {r m : List (List DV)} (h : DM who r m) {q : Nat} (hq : q < m.length) (hp : pF m[q] ≠ (who : Int)) : DM who r (delB m q) where
  sub := fun e he => h.sub e ((del_sub hq).subset he)
  nd := List.Pairwise.sublist (del_sub hq) h.nd
  len := Nat.le_trans (del_sub hq).length_le h.len
  keep := fun e he hf => by
    have hm := h.keep e he hf
    have hs : m = m.take q ++ m[q] :: m.drop (q + 1) := by
      rw [← List.drop_eq_getElem_cons hq, List.take_append_drop]
    rw [hs] at hm
    unfold delB
    rcases List.mem_append.1 hm with hm | hm
    · exact List.mem_append.2 (.inl hm)
    · rcases List.mem_cons.1 hm with hm | hm
      · exact absurd (by rw [← hm]; exact hf) hp
      · exact List.mem_append.2 (.inr hm)
  sums := fun φ hφ => by
    have h1 := h.sums φ hφ
    have h2 := sumL_del φ hq
    have h3 := hφ m[q] (h.sub _ (List.getElem_mem hq)) hp
    omega
theorem DM.step {who : Nat} {r m : List (List DV)} (h : DM who r m) (x : Int) : DM who r (stepM who m x) := by
  unfold stepM
  cases m with
  | nil => exact h
  | cons a t =>
    have hq : (and64 x 65535).toNat % (a :: t).length < (a :: t).length := Nat.mod_lt _ (by simp)
    have hpk : pk (a :: t) x = (a :: t)[(and64 x 65535).toNat % (a :: t).length] := by
      unfold pk
      rw [getD_at hq]
    show DM who r (cond ((cellA (pk (a :: t) x) 1).toI != (who : Int)) _ _)
    cases hc : ((cellA (pk (a :: t) x) 1).toI != (who : Int)) with
    | false => exact h
    | true =>
      have hne : pF (pk (a :: t) x) ≠ (who : Int) := bne_iff_ne.1 hc
      rw [hpk] at hne ⊢
      have hf := nd_fI h.nd _ hq
      have hd : dropL (a :: t) (idO (a :: t)[(and64 x 65535).toNat % (a :: t).length]) = delB (a :: t) ((and64 x 65535).toNat % (a :: t).length) := by
        unfold dropL
        rw [hf, decide_eq_false (by omega), cond_false, Int.toNat_natCast]
      show DM who r (dropL (a :: t) (idO (a :: t)[(and64 x 65535).toNat % (a :: t).length]))
      rw [hd]
      exact h.drop hq hne
theorem DM.refl {who : Nat} {r : List (List DV)} (h : isP r = true) : DM who r r :=
  ⟨fun _ h => h, ((isP_iff r).1 h).1, ((isP_iff r).1 h).2.1, fun _ h _ => h, fun _ _ => Int.le_refl _⟩
theorem DM.all {who : Nat} {r : List (List DV)} (h : isP r = true) (d : List (List DV)) : ∀ i, DM who r (dropN who d r i)
  | 0 => DM.refl h
  | i + 1 => (DM.all h d i).step _
theorem drop_nil {who : Int} {d m : List (List DV)} {i : Nat} (h : dropN who d m i = []) : ∀ j, dropN who d m (i + j) = []
  | 0 => h
  | j + 1 => by
    show stepM who (dropN who d m (i + j)) _ = []
    rw [drop_nil h j]
    rfl
theorem loop60 (n : Nat) {who : Nat} {d : List (List DV)} (x y z u : DV) {r : List (List DV)} (hd : d.length ≤ 30) (hz1 : ∀ e ∈ d, okRow z1 e = true) (hz : ∀ e ∈ r, okRow z7 e = true) (hP : isP r = true) :
    LoopOk (LB tab spL lG6 20 (n+4) h60 c6l0) (S60 (who : Nat) d [x, y, z, u] r r 0) (.ex 0, E60 (who : Nat) [x, y, z, u] r (dropN (who : Nat) d r d.length)) := by
  refine loop_rounds (fun i : Nat => S60 (who : Nat) d [x, y, z, u] r (dropN (who : Nat) d r i) (i : Nat)) (fun _ => (.ex 0, E60 (who : Nat) [x, y, z, u] r (dropN (who : Nat) d r d.length))) d.length (fun i hi => ?_) ⟨by simp, fun k => ?_⟩ 0 (Nat.zero_le _)
  · have hM := DM.all (who := who) hP d i
    by_cases hm : (dropN (who : Nat) d r i).length = 0
    · right
      refine ⟨by simp, fun k => ?_⟩
      have hnil := List.eq_nil_of_length_eq_zero hm
      have hlast : dropN (who : Nat) d r d.length = [] := by
        have := drop_nil hnil (d.length - i)
        rwa [show i + (d.length - i) = d.length by omega] at this
      rw [s60, hlast, hnil, lt_dec hi]
      rfl
    · left
      refine ⟨fun k => ?_, rfl⟩
      have hstep : dropN (who : Nat) d r (i + 1) = stepM (who : Nat) (dropN (who : Nat) d r i) (cel (d[i]?.getD [])) := rfl
      rw [hstep, getD_at hi]
      generalize dropN (who : Nat) d r i = m at *
      have hb := and_b (cel d[i]) (m := 65535)
      have hb : 0 ≤ and64 (cel d[i]) 65535 := by
        have hn : (BitVec.ofInt IntKind.i64.bits (cel d[i]) &&& BitVec.ofInt IntKind.i64.bits (65535 : Int)).toNat ≤ 65535 := by
          rw [BitVec.toNat_and]
          refine Nat.le_trans Nat.and_le_right ?_
          decide
        unfold and64
        rw [wrap_fits (by omega) (by omega)]
        omega
      have hq : (and64 (cel d[i]) 65535).toNat % m.length < m.length := Nat.mod_lt _ (by omega)
      have ew : IntKind.i64.wrap ((BitVec.ofInt IntKind.i64.bits (cellA d[i] 0).toI &&& BitVec.ofInt IntKind.i64.bits (65535 : Int)).toNat : Int) = and64 (cel d[i]) 65535 := rfl
      have em : (and64 (cel d[i]) 65535).tmod (m.length : Int) = (((and64 (cel d[i]) 65535).toNat % m.length : Nat) : Int) := by
        rw [Int.tmod_eq_emod_of_nonneg hb]
        have : and64 (cel d[i]) 65535 = (((and64 (cel d[i]) 65535).toNat : Nat) : Int) := by omega
        rw [this]
        rfl
      have hpk : pk m (cel d[i]) = m[(and64 (cel d[i]) 65535).toNat % m.length] := by
        unfold pk
        rw [getD_at hq]
      have hzm := hz _ (hM.sub _ (List.getElem_mem hq))
      rw [s60, lt_dec hi, cond_true, decide_eq_true (show (m.length : Int) > 0 by omega), cond_true, look_nat hi, hz1 _ (List.getElem_mem hi), cond_true, decide_eq_false (show ¬ (m.length : Int) = 0 by omega), cond_false, ew, em, decide_eq_true (by omega), cond_true, Int.toNat_natCast, look_nat hq, hzm, cond_true, wrap_succ (by omega)]
      have hne : m.isEmpty = false := by cases m with | nil => exact absurd rfl hm | cons _ _ => rfl
      have hs : stepM (who : Nat) m (cel d[i]) = cond ((cellA m[(and64 (cel d[i]) 65535).toNat % m.length] 1).toI != (who : Int)) (dropL m (cellA m[(and64 (cel d[i]) 65535).toNat % m.length] 0).toI) m := by
        unfold stepM
        rw [hne, cond_false, hpk]
      rw [hs]
      cases hc : ((cellA m[(and64 (cel d[i]) 65535).toNat % m.length] 1).toI != (who : Int)) with
      | true => exact need_pos ⟨_, _, rfl, Sl.sla _ _ _, fun e he => hz _ (hM.sub e he), by have := hM.len; show m.length ≤ 1000; omega⟩
      | false => rfl
  · rw [s60, lt_dec_self]
    rfl
theorem isW_take {who : Int} {s : List (List DV)} {i : Nat} (hi : i < s.length) : isW who (s.take (i + 1)) = (isW who (s.take i) || (cel s[i] == who)) := by
  unfold isW
  rw [List.take_succ_eq_append_getElem hi, List.any_append]
  simp
theorem loop61 (n : Nat) {who : Int} {s t : List (List DV)} (hs : s.length ≤ 30) (hz1 : ∀ e ∈ s, okRow z1 e = true) (b : Bool) :
    LoopOk (LB tab spL lG6 20 (n+4) h61 c6l1) (S61 who false b s t 0) (.ex 2, St.of [(3, .d (.int .i64 who)), (16, .d (.bool (false || isW who s))), (17, .d (.bool b)), (19, .d (.sla false 1 t))] [(83, none)]) := by
  refine loop_rounds (fun i : Nat => S61 who (isW who (s.take i)) b s t (i : Nat)) (fun _ => (.ex 2, St.of [(3, .d (.int .i64 who)), (16, .d (.bool (false || isW who s))), (17, .d (.bool b)), (19, .d (.sla false 1 t))] [(83, none)])) s.length (fun i hi => .inl ⟨fun k => ?_, rfl⟩) ⟨by simp, fun k => ?_⟩ 0 (Nat.zero_le _)
  · rw [s61, lt_dec hi, cond_true, look_nat hi, hz1 _ (List.getElem_mem hi), cond_true, wrap_succ (by omega), isW_take hi]
    cases isW who (s.take i) <;> rfl
  · rw [s61, lt_dec_self, List.take_length, Bool.false_or]
    rfl
theorem loop62 (n : Nat) {who : Int} {t : List (List DV)} (hs : t.length ≤ 30) (hz1 : ∀ e ∈ t, okRow z1 e = true) (a : Bool) :
    LoopOk (LB tab spL lG6 20 (n+4) h62 c6l2) (S62 who a false t 0) (.ex 4, St.of [(16, .d (.bool a)), (17, .d (.bool (false || isW who t)))] []) := by
  refine loop_rounds (fun i : Nat => S62 who a (isW who (t.take i)) t (i : Nat)) (fun _ => (.ex 4, St.of [(16, .d (.bool a)), (17, .d (.bool (false || isW who t)))] [])) t.length (fun i hi => .inl ⟨fun k => ?_, rfl⟩) ⟨by simp, fun k => ?_⟩ 0 (Nat.zero_le _)
  · rw [s62, lt_dec hi, cond_true, look_nat hi, hz1 _ (List.getElem_mem hi), cond_true, wrap_succ (by omega), isW_take hi]
    cases isW who (t.take i) <;> rfl
  · rw [s62, lt_dec_self, List.take_length, Bool.false_or]
    rfl
theorem isW_out {P : Nat → Bool} {who : Nat} (hw : who < 3) : isW (who : Int) (outL 3 P) = P who := by
  rw [outL_succ, outL_succ, outL_succ]
  match who, hw with
  | 0, _ => cases P 0 <;> cases P 1 <;> cases P 2 <;> rfl
  | 1, _ => cases P 0 <;> cases P 1 <;> cases P 2 <;> rfl
  | 2, _ => cases P 0 <;> cases P 1 <;> cases P 2 <;> rfl
theorem cells_succ (n : Nat) (g : Nat → Int) : cells (n + 1) g = cells n g ++ [[.int .i64 (g n)]] := by
  unfold cells
  rw [List.range_succ, List.map_append]
  rfl
theorem sumR_app (a b : List (List DV)) : sumR (a ++ b) = sumR a + sumR b := by
  induction a with
  | nil => simp [sumR]
  | cons x a ih =>
    simp only [List.cons_append, sumR, ih]
    omega
theorem sumR_mono {g h : Nat → Int} : ∀ n : Nat, (∀ j, j < n → g j ≤ h j) → sumR (cells n g) ≤ sumR (cells n h)
  | 0, _ => Int.le_refl _
  | n + 1, e => by
    have h1 := sumR_mono n fun j hj => e j (by omega)
    have h2 := e n (by omega)
    rw [cells_succ, cells_succ, sumR_app, sumR_app]
    have e1 : ∀ x : Int, sumR [[DV.int .i64 x]] = x := fun x => Int.add_zero x
    rw [e1, e1]
    omega
theorem sumL_neg (φ : List DV → Int) : ∀ l : List (List DV), sumL (fun e => 0 - φ e) l = 0 - sumL φ l
  | [] => rfl
  | e :: l => by
    have := sumL_neg φ l
    simp only [sumL]
    omega
/-- who falls short stays so, if others send less -/
theorem short_less {ac bs ms qs r m : List (List DV)} (hp : ∀ e ∈ r, PO ac.length e) {who : Nat} (h : DM who r m) (hw : shP ac bs ms qs r who = true) : shP ac bs ms qs m who = true := by
  obtain ⟨h1, h2⟩ := Bool.and_eq_true_iff.1 hw
  have a1 : m.any (clB (k30 (who : Nat))) = true := by
    rw [List.any_eq_true] at h1 ⊢
    obtain ⟨e, he, hf⟩ := h1
    exact ⟨e, h.keep e he (eq_of_beq hf), hf⟩
  have hro : roI ac m who ≤ roI ac r who := by
    unfold roI
    have := h.sums (dM who) fun e he hf => by
      have hP := hp e he
      have := hP.a0
      unfold dM
      rw [if_neg hf]
      split <;> omega
    omega
  have hQ : ∀ t : Nat, sumL (dQ who t) r ≤ sumL (dQ who t) m := fun t => by
    have := h.sums (fun e => 0 - dQ who t e) fun e he hf => by
      have hP := hp e he
      have := hP.a0
      unfold dQ
      rw [if_neg fun h => hf h.1]
      split <;> omega
    rw [sumL_neg, sumL_neg] at this
    omega
  have hS : sumL (dS who) m = sumL (dS who) r := by
    have g1 := h.sums (dS who) fun e he hf => by
      unfold dS
      rw [if_neg fun h => hf h.1]
      omega
    have g2 := h.sums (fun e => 0 - dS who e) fun e he hf => by
      unfold dS
      rw [if_neg fun h => hf h.1]
      omega
    rw [sumL_neg, sumL_neg] at g2
    omega
  have hne : neI qs ac.length r who ≤ neI qs ac.length m who := by
    unfold neI
    have := sumR_mono ac.length (g := fun t => sumL (dQ who t) r) (h := fun t => sumL (dQ who t) m) fun j _ => hQ j
    omega
  refine Bool.and_eq_true_iff.2 ⟨a1, ?_⟩
  unfold shV at h2 ⊢
  rw [Bool.or_eq_true, Bool.or_eq_true] at h2 ⊢
  rcases h2 with h2 | h2 | h2
  · have := of_decide_eq_true h2
    exact .inl (decide_eq_true (by omega))
  · obtain ⟨g1, g2⟩ := Bool.and_eq_true_iff.1 h2
    have := of_decide_eq_true g2
    exact .inr (.inl (Bool.and_eq_true_iff.2 ⟨g1, decide_eq_true (by omega)⟩))
  · right
    right
    rw [List.any_eq_true] at h2 ⊢
    obtain ⟨e, he, g⟩ := h2
    unfold eB at g
    obtain ⟨g1, g2⟩ := Bool.and_eq_true_iff.1 g
    refine ⟨e, h.keep e he (eq_of_beq g1), ?_⟩
    unfold eB
    refine Bool.and_eq_true_iff.2 ⟨g1, ?_⟩
    rw [Bool.or_eq_true] at g2 ⊢
    rcases g2 with g2 | g2
    · obtain ⟨q1, q2⟩ := Bool.and_eq_true_iff.1 g2
      have := of_decide_eq_true q2
      exact .inl (Bool.and_eq_true_iff.2 ⟨q1, by rw [hS]; exact decide_eq_true (by omega)⟩)
    · obtain ⟨q1, q2⟩ := Bool.and_eq_true_iff.1 g2
      have := of_decide_eq_true q2
      have := hQ (pT e).toNat
      exact .inr (Bool.and_eq_true_iff.2 ⟨q1, decide_eq_true (by omega)⟩)
theorem outL_ok' (n : Nat) (P : Nat → Bool) : ∀ e ∈ outL n P, okRow z1 e = true := fun e he => by
  obtain ⟨j, _, rfl⟩ := List.mem_map.1 (show e ∈ ((List.range n).filter P).map (fun i => [DV.int .i64 ((i : Nat) : Int)]) from he)
  rfl
end Go.Proofs.Ythjcfiekdejdgaa
