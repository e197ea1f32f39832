/- FitsOrder: what is told of payments in turn; in which order they stand does not matter. No condition. -/
import Derived.Test.YthjcfiekdejdgaaHg
namespace Go.Proofs.Ythjcfiekdejdgaa
open Go Go.Proofs Go.RowKit Vm
set_option linter.unusedVariables false
set_option linter.unusedSimpArgs false
theorem outL_3 {P : Nat → Bool} {a b c : Bool} (h0 : P 0 = a) (h1 : P 1 = b) (h2 : P 2 = c) : outL 3 P = outE a b c := by
  rw [outL_succ, outL_succ, outL_succ, h0, h1, h2]
  cases a <;> cases b <;> cases c <;> rfl
theorem sho16c (a b c : Bool) : (shoC a b c).ok Try.prog 16 := fun ds r hD hv => by
  obtain ⟨ac, bs, ms, qs, x, rfl, hB, hx, hl, hp, h3, p0, p1, p2⟩ := hD
  cases hv
  refine Sl.gen2' rfl hx ?_
  generalize rowsA x = l at *
  have hn : 1 ≤ ac.length ∧ ac.length ≤ 6 := ⟨hB.n1, hB.n6⟩
  have hL := loop160 hB hl hp 20 (0 + 8)
  have hM : movS.D [.int .i64 (ac.length : Nat), .sla false 7 l] := ⟨ac.length, .sla false 7 l, rfl, hB.n1, hB.n6, Sl.sla 7 false l, hl, hp⟩
  have h := t16 hn 0 bs ms qs l
  rw [need_pos hM] at h
  unfold t16R at h
  unfold R160 at hL
  have hO : outL ac.length (shP ac bs ms qs l) = outE a b c := by
    rw [h3]
    exact outL_3 p0 p1 p2
  rw [hO] at h hL
  cases a <;> cases b <;> cases c <;> first
    | exact spec_run (lsp := lH) tab_ok spS_ok 20 (0 + 12) (h.trans (need_pos hL))
    | exact spec_run (lsp := lH) tab_ok spS_ok 20 (0 + 12) (h.trans ((need_pos hL).trans (retO_eq _)))
theorem rem_at {i n : Nat} {t : Int} (hi : i < n) (hn : n ≤ 1000) : IntKind.i64.wrap ((i : Int) + and64 t 63) = ((i + (and64 t 63).toNat : Nat) : Int) ∧ ((((i + (and64 t 63).toNat : Nat) : Int)).tmod (n : Int)) = (((i + (and64 t 63).toNat) % n : Nat) : Int) := by
  have hb := and_b t (m := 63) (by omega)
  have h : ((63 : Nat) : Int) = 63 := rfl
  rw [h] at hb
  refine ⟨?_, ?_⟩
  · rw [wrap_fits (by omega) (by omega)]
    omega
  · rw [Int.tmod_eq_emod_of_nonneg (by omega)]
    rfl
theorem loop50 (a b c : Bool) (m : Nat) (t : Int) (x y z u : DV) {r : List (List DV)} (hr : r.length ≤ 1000) (hz : ∀ e ∈ r, okRow z7 e = true) :
    LoopOk (LB tab (spO a b c) lG5 20 (m+4) h50 c5l0) (S50 t [x, y, z, u] r (.d .nilsl) 0 none none) (.ex 0, E50 [x, y, z, u] r (parV 44 50044 7 (rot r t)) (parO1 31 7 (rot r t)) (parO2 31 7 (rot r t))) := by
  have hro : ∀ (O : List (List DV)) (e : List DV) (i : Nat), i < r.length → O.length ≤ i → decide ((O ++ [e]).length * 56 ≤ room ∧ (O ++ [e]).length ≤ room) = true := fun O e i h1 h2 => room_ok (by rw [List.length_append, List.length_singleton]; omega) (by omega)
  have e0 : ∀ i, i < r.length → decide (((r.length : Nat) : Int) = (0 : Int)) = false := fun i hi => decide_eq_false (by omega)
  have ew : IntKind.i64.wrap ((BitVec.ofInt IntKind.i64.bits t &&& BitVec.ofInt IntKind.i64.bits (63 : Int)).toNat : Int) = and64 t 63 := rfl
  have hq : ∀ i, i < r.length → (i + (and64 t 63).toNat) % r.length < r.length := fun i hi => Nat.mod_lt _ (by omega)
  have e3 : ∀ j : Nat, decide ((0 : Int) ≤ ((j : Nat) : Int)) = true := fun j => decide_eq_true (by omega)
  have hrow : ∀ i (hi : i < r.length), rotP r (and64 t 63).toNat i = pay7 (r[(i + (and64 t 63).toNat) % r.length]'(hq i hi)) := fun i hi => by
    unfold rotP
    rw [getD_at (hq i hi)]
  refine loop_coll (fun v i a1 a2 => S50 t [x, y, z, u] r v (i : Nat) a1 a2) (E50 [x, y, z, u] r) (s := 44) (s' := 50044) (el := 31) (sz := 7) r.length (fun _ => true) (rotP r (and64 t 63).toNat) ?_ ?_ ?_ ?_ ?_ ?_
  · intro i hi k
    rw [s50A, lt_dec hi, cond_true, e0 i hi, cond_false, ew, (rem_at hi hr).1, (rem_at hi hr).2, e3, cond_true, Int.toNat_natCast, look_nat (hq i hi), hz _ (List.getElem_mem _), cond_true, wrap_succ (by omega), hrow i hi]
    rfl
  · intro i hi O hO k
    rw [s50B, lt_dec hi, cond_true, e0 i hi, cond_false, ew, (rem_at hi hr).1, (rem_at hi hr).2, e3, cond_true, Int.toNat_natCast, look_nat (hq i hi), hz _ (List.getElem_mem _), cond_true, wrap_succ (by omega), hrow i hi, hro O _ i hi hO]
    rfl
  · intro i hi O hO k
    rw [s50C, lt_dec hi, cond_true, e0 i hi, cond_false, ew, (rem_at hi hr).1, (rem_at hi hr).2, e3, cond_true, Int.toNat_natCast, look_nat (hq i hi), hz _ (List.getElem_mem _), cond_true, wrap_succ (by omega), hrow i hi, hro O _ i hi hO]
    rfl
  · intro k
    rw [s50A, lt_dec_self]
    rfl
  · intro O k
    rw [s50B, lt_dec_self]
    rfl
  · intro O k
    rw [s50C, lt_dec_self]
    rfl
theorem loop15 (L m : Nat) {x : List (List DV)} (hl : x.length ≤ 1000) (hz : ∀ e ∈ x, okRow z1 e = true) :
    LoopOk (LB tab noSp lG5 L (m+4) h150 c15l0) (S15 x x 0) (.ex 0, St.of [] []) := by
  refine loop_meas (fun j : Nat => S15 x x (j : Nat)) (fun j => x.length - j) (fun j => j ≤ x.length) (fun _ => (.ex 0, St.of [] [])) (fun j hs => ?_) 0 (Nat.zero_le _)
  by_cases hj : j < x.length
  · left
    refine ⟨j + 1, hj, by omega, rfl, fun K => ?_⟩
    rw [s15, lt_dec hj, cond_true, look_nat hj, hz _ (List.getElem_mem hj), cond_true, look_nat hj, hz _ (List.getElem_mem hj), cond_true, bne_self_eq_false, cond_false, wrap_succ (by omega)]
    rfl
  · right
    have : j = x.length := by omega
    subst this
    refine ⟨by simp, fun K => ?_⟩
    rw [s15, lt_dec_self]
    rfl
theorem ino15 : inoS.ok Try.prog 15 := fun ds r hD hv => by
  obtain ⟨x, y, rfl, hx, hy, he, hl, hz⟩ := hD
  cases hv
  refine EntX.gen2 hx hy ?_
  rw [← he]
  generalize rowsA x = l at *
  refine spec_run (lsp := lG5) tab_ok noSp_ok 20 (0 + 8) ((t15o 0 l l).trans ?_)
  rw [bne_self_eq_false, cond_false]
  exact need_pos (loop15 20 (0 + 4) hl hz)
theorem spO_ok (a b c : Bool) : ∀ f s, spO a b c f = some s → s.ok Try.prog f := spAdd_ok some19 (spAdd_ok row20 (spAdd_ok ino15 (spAdd_ok (sho16c a b c) (spAdd_ok known18 noSp_ok))))
/-! ### sums in turn -/
def sumM (g : Nat → Int) : Nat → Int
  | 0 => 0
  | k + 1 => sumM g k + g k
theorem sumM_shift (F : Nat → Int) : ∀ n : Nat, sumM (fun i => F (i + 1)) n = sumM F n + F n - F 0
  | 0 => by simp [sumM]
  | n + 1 => by
    have := sumM_shift F n
    simp only [sumM]
    omega
theorem sumM_congr {g h : Nat → Int} : ∀ {n : Nat}, (∀ k, k < n → g k = h k) → sumM g n = sumM h n
  | 0, _ => rfl
  | n + 1, e => by
    simp only [sumM]
    rw [sumM_congr fun k hk => e k (by omega), e n (by omega)]
theorem sumM_turn (G : Nat → Int) (n : Nat) (hG : ∀ j, G (j + n) = G j) : ∀ a : Nat, sumM (fun i => G (i + a)) n = sumM G n
  | 0 => rfl
  | a + 1 => by
    have h := sumM_shift (fun i => G (i + a)) n
    have h1 : sumM (fun i => G (i + (a + 1))) n = sumM (fun i => G (i + 1 + a)) n := sumM_congr fun k _ => by rw [show k + (a + 1) = k + 1 + a by omega]
    rw [h1, h, sumM_turn G n hG a]
    have h2 : G (n + a) = G (0 + a) := by rw [Nat.add_comm n a, hG, Nat.zero_add]
    omega
theorem sumL_get (φ : List DV → Int) (l : List (List DV)) : ∀ k, k ≤ l.length → sumM (fun i => φ (l[i]?.getD [])) k = sumL φ (l.take k)
  | 0, _ => rfl
  | k + 1, h => by
    simp only [sumM]
    rw [sumL_get φ l k (by omega), sumL_take (by omega : k < l.length), getD_at (by omega : k < l.length)]
theorem sumL_map (φ : List DV → Int) (row : Nat → List DV) : ∀ n : Nat, sumL φ (outN n (fun _ => true) row) = sumM (fun i => φ (row i)) n
  | 0 => rfl
  | n + 1 => by
    rw [outN_succ, cond_true, sumL_append, sumL_map φ row n]
    simp only [sumL, sumM, Int.add_zero]
theorem rot_sum {r : List (List DV)} (hz : ∀ e ∈ r, okRow z7 e = true) (t : Int) (φ : List DV → Int) : sumL φ (rot r t) = sumL φ r := by
  unfold rot
  rw [sumL_map]
  have h7 : ∀ e ∈ r, pay7 e = e := fun e he => eta7 (hz e he)
  have h1 := sumM_turn (fun j => φ (pay7 (r[j % r.length]?.getD []))) r.length (fun j => by simp only [Nat.add_mod_right]) (and64 t 63).toNat
  refine h1.trans ?_
  have h2 : sumM (fun j => φ (pay7 (r[j % r.length]?.getD []))) r.length = sumM (fun i => φ (r[i]?.getD [])) r.length := sumM_congr fun k hk => by
    rw [Nat.mod_eq_of_lt hk, getD_at hk, h7 _ (List.getElem_mem hk)]
  rw [h2, sumL_get φ r r.length (Nat.le_refl _), List.take_length]
theorem any_sum {φ : List DV → Bool} : ∀ l : List (List DV), l.any φ = decide (0 < sumL (fun e => cond (φ e) 1 0) l)
  | [] => rfl
  | e :: l => by
    have ih := any_sum (φ := φ) l
    have h0 : 0 ≤ sumL (fun e => cond (φ e) 1 0) l := sumL_nonneg fun e _ => by cases φ e <;> simp
    have hs : sumL (fun e => cond (φ e) 1 0) (e :: l) = cond (φ e) 1 0 + sumL (fun e => cond (φ e) 1 0) l := rfl
    refine Bool.eq_iff_iff.2 ?_
    rw [List.any_cons, Bool.or_eq_true, ih, decide_eq_true_eq, decide_eq_true_eq, hs]
    cases φ e with
    | true =>
      rw [cond_true]
      exact ⟨fun _ => by omega, fun _ => .inl rfl⟩
    | false =>
      rw [cond_false]
      exact ⟨fun h => by rcases h with h | h; cases h; omega, fun h => .inr (by omega)⟩
theorem shP_sums {ac bs ms qs r m : List (List DV)} (hs : ∀ φ : List DV → Int, sumL φ m = sumL φ r) (i : Nat) : shP ac bs ms qs m i = shP ac bs ms qs r i := by
  have ha : ∀ φ : List DV → Bool, m.any φ = r.any φ := fun φ => by rw [any_sum, any_sum, hs]
  have h1 : roI ac m i = roI ac r i := by unfold roI; rw [hs]
  have h2 : neI qs ac.length m i = neI qs ac.length r i := by unfold neI; simp only [hs]
  have h3 : eB ac bs qs m i = eB ac bs qs r i := by
    funext e
    unfold eB
    rw [h1, hs, hs]
  unfold shP shV
  rw [ha, ha, h1, h2, h3]
theorem rot_mem {r : List (List DV)} (hz : ∀ e ∈ r, okRow z7 e = true) (t : Int) : ∀ e ∈ rot r t, e ∈ r := fun e he => by
  obtain ⟨i, hi, rfl⟩ := List.mem_map.1 (show e ∈ ((List.range r.length).filter fun _ => true).map (rotP r (and64 t 63).toNat) from he)
  have hi := List.mem_range.1 (List.mem_filter.1 hi).1
  have hq : (i + (and64 t 63).toNat) % r.length < r.length := Nat.mod_lt _ (by omega)
  unfold rotP
  rw [getD_at hq, show pay7 r[(i + (and64 t 63).toNat) % r.length] = _ from eta7 (hz _ (List.getElem_mem hq))]
  exact List.getElem_mem hq
end Go.Proofs.Ythjcfiekdejdgaa
