/- What fits, by both: the proofs. No condition. -/
import Derived.Test.YthjcfiekdejdgaaGn
namespace Go.Proofs.Ythjcfiekdejdgaa
open Go Go.Proofs Go.RowKit Vm
set_option linter.unusedVariables false
set_option linter.unusedSimpArgs false
def allV (n : Nat) (l : List (List DV)) : Bool := l.all (mayE n) && decide (l.length ≤ 64)
def allS : FSpec where
  D ds := ∃ ac bs ms qs x, ds = [.agg (bk ac bs ms qs), x] ∧ Sl 7 x ∧ (rowsA x).length ≤ 1000 ∧ ∀ e ∈ rowsA x, okRow z7 e = true
  val ds := match ds with | [.agg [.sla _ _ ac, .sla _ _ bs, .sla _ _ ms, .sla _ _ qs], x] => some (.bool (allV ac.length (rowsA x))) | _ => none
def intsS : FSpec where
  D ds := ∃ x y, ds = [x, y] ∧ Sl 1 x ∧ Sl 1 y ∧ rowsA x = rowsA y ∧ (rowsA x).length ≤ 1000 ∧ ∀ e ∈ rowsA x, okRow z1 e = true
  val ds := some (.bool true)
noncomputable def spP : FuncId → Option FSpec := spAdd 28 conS (spAdd 16 shoS (spAdd 14 allS (spAdd 17 shoS noSp)))
theorem t12 (n : Nat) (ac bs ms qs l : List (List DV)) : FK tab spP lsp0 20 (n+8) 12 [.agg (bk ac bs ms qs), .sla false 7 l] =
   (bif decide ((↑l.length : Int) ≤ (64 : Int)) then
 need
 (conS.D
 [DV.sla false 7 l,
 DV.func (27 : FuncId)
 [DV.rptr [DV.sla false 3 ac, DV.sla false 1 bs, DV.sla false 1 ms, DV.sla false 1 qs] (0 : Nat)]])
 (bif
 !l.any
 (clB
 (DV.func (27 : FuncId)
 [DV.rptr [DV.sla false 3 ac, DV.sla false 1 bs, DV.sla false 1 ms, DV.sla false 1 qs]
 (0 : Nat)].reverse)) then
 need
 (shoS.D
 [DV.agg [DV.sla false 3 ac, DV.sla false 1 bs, DV.sla false 1 ms, DV.sla false 1 qs], DV.sla false 7 l])
 (some (DV.bool ((↑(outL ac.length (shP ac bs ms qs l)).length : Int) == (0 : Int))))
 else some (DV.bool false))
 else some (DV.bool false)) :=
  (show FK tab spP lsp0 20 (n+8) 12 [.agg (bk ac bs ms qs), .sla false 7 l] =
 (cond (decide ((↑l.length : Int) ≤ (64 : Int)))
 (need (FSpec.D (conS) [(.sla false 7 l), (.func 27 [(.rptr [(.sla false 3 ac), (.sla false 1 bs), (.sla false 1 ms), (.sla false 1 qs)] 0)])])
 (cond (!(rowsA (DV.sla false 7 l)).any (clB (DV.func (27 : FuncId) [DV.rptr [DV.sla false 3 ac, DV.sla false 1 bs, DV.sla false 1 ms, DV.sla false 1 qs] (0 : Nat)].reverse)))
 (need (FSpec.D (shoS) [(.agg [(.sla false 3 ac), (.sla false 1 bs), (.sla false 1 ms), (.sla false 1 qs)]), (.sla false 7 l)])
 (some (.bool ((↑(outL ac.length (shP ac bs ms qs (rowsA (DV.sla false 7 l)))).length : Int) == (0 : Int)))))
 (some (.bool false))))
 (some (.bool false))) from by kernel_rfl).trans (by first | rfl | (simp only [decide_true, decide_false, eq_self, and_true, true_and, and_self, cond_true, cond_false, Nat.le_refl, Int.le_refl, Option.getD_some, Option.getD_none, Int.toNat_natCast, List.take_length, List.drop_zero, Nat.zero_add, List.nil_append, List.all_nil, List.append_nil, Bool.true_and, Bool.and_true, rowsA_sla, rowsA_sl, rowsA_nil, minus_zero, nat_le_cast, nat_nonneg, Option.isSome_some, Option.isSome_none, Bool.false_eq_true, false_and, and_false, if_true, if_false, implies_true, Int.toNat_zero, Bool.not_false, Bool.not_true, bne_self_eq_false]; done) | (simp only [decide_true, decide_false, eq_self, and_true, true_and, and_self, cond_true, cond_false, Nat.le_refl, Int.le_refl, Option.getD_some, Option.getD_none, Int.toNat_natCast, List.take_length, List.drop_zero, Nat.zero_add, List.nil_append, List.all_nil, List.append_nil, Bool.true_and, Bool.and_true, rowsA_sla, rowsA_sl, rowsA_nil, minus_zero, nat_le_cast, nat_nonneg, Option.isSome_some, Option.isSome_none, Bool.false_eq_true, false_and, and_false, if_true, if_false, implies_true, Int.toNat_zero, Bool.not_false, Bool.not_true, bne_self_eq_false]; rfl))
theorem t13 (n : Nat) (ac bs ms qs l : List (List DV)) : FK tab spP lsp0 20 (n+8) 13 [.agg (bk ac bs ms qs), .sla false 7 l] =
   (need
 (allS.D [DV.agg [DV.sla false 3 ac, DV.sla false 1 bs, DV.sla false 1 ms, DV.sla false 1 qs], DV.sla false 7 l])
 (bif allV ac.length l then
 need
 (shoS.D
 [DV.agg [DV.sla false 3 ac, DV.sla false 1 bs, DV.sla false 1 ms, DV.sla false 1 qs], DV.sla false 7 l])
 (some (DV.bool ((↑(outL ac.length (shP ac bs ms qs l)).length : Int) == (0 : Int))))
 else some (DV.bool false))) :=
  (show FK tab spP lsp0 20 (n+8) 13 [.agg (bk ac bs ms qs), .sla false 7 l] =
 (need (FSpec.D (allS) [(.agg [(.sla false 3 ac), (.sla false 1 bs), (.sla false 1 ms), (.sla false 1 qs)]), (.sla false 7 l)])
 (cond (allV ac.length (rowsA (DV.sla false 7 l)))
 (need (FSpec.D (shoS) [(.agg [(.sla false 3 ac), (.sla false 1 bs), (.sla false 1 ms), (.sla false 1 qs)]), (.sla false 7 l)])
 (some (.bool ((↑(outL ac.length (shP ac bs ms qs (rowsA (DV.sla false 7 l)))).length : Int) == (0 : Int)))))
 (some (.bool false)))) from by kernel_rfl).trans (by first | rfl | (simp only [decide_true, decide_false, eq_self, and_true, true_and, and_self, cond_true, cond_false, Nat.le_refl, Int.le_refl, Option.getD_some, Option.getD_none, Int.toNat_natCast, List.take_length, List.drop_zero, Nat.zero_add, List.nil_append, List.all_nil, List.append_nil, Bool.true_and, Bool.and_true, rowsA_sla, rowsA_sl, rowsA_nil, minus_zero, nat_le_cast, nat_nonneg, Option.isSome_some, Option.isSome_none, Bool.false_eq_true, false_and, and_false, if_true, if_false, implies_true, Int.toNat_zero, Bool.not_false, Bool.not_true, bne_self_eq_false]; done) | (simp only [decide_true, decide_false, eq_self, and_true, true_and, and_self, cond_true, cond_false, Nat.le_refl, Int.le_refl, Option.getD_some, Option.getD_none, Int.toNat_natCast, List.take_length, List.drop_zero, Nat.zero_add, List.nil_append, List.all_nil, List.append_nil, Bool.true_and, Bool.and_true, rowsA_sla, rowsA_sl, rowsA_nil, minus_zero, nat_le_cast, nat_nonneg, Option.isSome_some, Option.isSome_none, Bool.false_eq_true, false_and, and_false, if_true, if_false, implies_true, Int.toNat_zero, Bool.not_false, Bool.not_true, bne_self_eq_false]; rfl))
theorem may10 : mayS.ok Try.prog 10 := fun ds r hD hv => by
  obtain ⟨ac, bs, ms, qs, a0, f, t, a, c, a5, a6, rfl⟩ := hD
  cases hv
  exact spec_run (lsp := lsp0) tab_ok noSp_ok 20 (0 + 8) (t10 0 ac bs ms qs a0 f t a c a5 a6)
theorem may11 : mayS.ok Try.prog 11 := fun ds r hD hv => by
  obtain ⟨ac, bs, ms, qs, a0, f, t, a, c, a5, a6, rfl⟩ := hD
  cases hv
  exact spec_run (lsp := lsp0) tab_ok noSp_ok 20 (0 + 8) (t11 0 ac bs ms qs a0 f t a c a5 a6)
theorem spN_ok : ∀ f s, spN f = some s → s.ok Try.prog f := spAdd_ok may10 (spAdd_ok may11 (spAdd_ok rsh32 noSp_ok))
theorem all_allF {φ : List DV → Bool} {l : List (List DV)} : allF (fun j => φ (l[j]?.getD [])) l.length 0 = l.all φ := by
  refine Bool.eq_iff_iff.2 ?_
  rw [List.all_eq_true]
  constructor
  · intro h e he
    obtain ⟨j, hj, rfl⟩ := List.mem_iff_getElem.1 he
    have := allF_at h j (Nat.zero_le _) (by omega)
    rw [getD_at hj] at this
    exact this
  · intro h
    refine allF_of fun j _ hj => ?_
    rw [getD_at (by omega : j < l.length)]
    exact h _ (List.getElem_mem _)
theorem loop140 (L m : Nat) (ac bs ms qs : List (List DV)) {l : List (List DV)} (hl : l.length ≤ 1000) (hz : ∀ e ∈ l, okRow z7 e = true) :
    LoopOk (LB tab spN lN L (m+4) h140 c14l0) (S140 l (bk ac bs ms qs) 0) (cond (l.all (mayE ac.length)) (.ex 0, St.of [(1, .d (.sla false 7 l))] []) (.ret, St.of [(4, .d (.bool false))] [])) := by
  rw [← all_allF]
  refine loop_allF (fun j : Nat => S140 l (bk ac bs ms qs) (j : Nat)) _ l.length _ _ (by simp) (by simp) (fun j hj K => ?_) (fun K => ?_)
  · rw [s140, lt_dec hj, cond_true, look_nat hj, hz _ (List.getElem_mem hj), cond_true, wrap_succ (by omega), getD_at hj]
    refine (need_pos ⟨_, _, _, _, _, _, _, _, _, _, _, rfl⟩).trans ?_
    show cond (!mayE ac.length l[j]) _ _ = _
    cases mayE ac.length l[j] <;> rfl
  · rw [s140, lt_dec_self]
    rfl
theorem all14 : allS.ok Try.prog 14 := fun ds r hD hv => by
  obtain ⟨ac, bs, ms, qs, x, rfl, hx, hl, hz⟩ := hD
  cases hv
  refine Sl.gen2' rfl hx ?_
  generalize rowsA x = l at *
  refine spec_run (lsp := lN) tab_ok spN_ok 20 (0 + 8) ((t14 0 ac bs ms qs l).trans ?_)
  have hL := loop140 20 (0 + 4) ac bs ms qs hl hz
  unfold allV
  cases h : l.all (mayE ac.length) with
  | true =>
    rw [h] at hL
    refine (need_pos hL).trans ?_
    rw [Bool.true_and, show decide (((l.length : Nat) : Int) ≤ (64 : Int)) = decide (l.length ≤ 64) from decide_eq_decide.2 (by omega)]
  | false =>
    rw [h] at hL
    exact need_pos hL
theorem loop170 (L m : Nat) {ac bs ms qs l : List (List DV)} (hB : BK ac bs ms qs) (hl : l.length ≤ 1000) (hp : ∀ e ∈ l, PO ac.length e) :
    LoopOk (LB tab spN lN L (m+4) h170 c17l0) (S170 l (bk ac bs ms qs) (.d .nilsl) 0 none none) (.ex 0, E170 (parV 21 50021 1 (outL ac.length (shP ac bs ms qs l))) (parO1 3 1 (outL ac.length (shP ac bs ms qs l))) (parO2 3 1 (outL ac.length (shP ac bs ms qs l)))) := by
  have h6 := hB.n6
  have hD : ∀ i, i < ac.length → rshS.D [.agg (bk ac bs ms qs), .sla false 7 l, .int .i64 ((i : Nat) : Int)] := fun i hi => ⟨_, _, _, _, _, _, rfl, hB, hi, hl, hp⟩
  have hr : ∀ (O : List (List DV)) (i : Nat), i < ac.length → O.length ≤ i → decide ((O ++ [[DV.int .i64 ((i : Nat) : Int)]]).length * 8 ≤ room ∧ (O ++ [[DV.int .i64 ((i : Nat) : Int)]]).length ≤ room) = true := fun O i h1 h2 => room_ok (by rw [List.length_append, List.length_singleton]; omega) (by omega)
  refine loop_coll (fun v i a1 a2 => S170 l (bk ac bs ms qs) v (i : Nat) a1 a2) E170 (s := 21) (s' := 50021) (el := 3) (sz := 1) ac.length (shP ac bs ms qs l) (fun i => [.int .i64 ((i : Nat) : Int)]) ?_ ?_ ?_ ?_ ?_ ?_
  · intro i hi k
    rw [s170A, lt_dec hi, cond_true, wrap_succ (by omega)]
    exact need_pos (hD i hi)
  · intro i hi O hO k
    rw [s170B, lt_dec hi, cond_true, wrap_succ (by omega), hr O i hi hO]
    exact need_pos (hD i hi)
  · intro i hi O hO k
    rw [s170C, lt_dec hi, cond_true, wrap_succ (by omega), hr O i hi hO]
    exact need_pos (hD i hi)
  · intro k
    rw [s170A, lt_dec_self]
    rfl
  · intro O k
    rw [s170B, lt_dec_self]
    rfl
  · intro O k
    rw [s170C, lt_dec_self]
    rfl
theorem rsho17 : shoS.ok Try.prog 17 := fun ds r hD hv => by
  obtain ⟨ac, bs, ms, qs, x, rfl, hB, hx, hl, hp⟩ := hD
  cases hv
  refine Sl.gen2' rfl hx ?_
  generalize rowsA x = l at *
  refine EntX.coll (el := 3) (spec_run (lsp := lN) tab_ok spN_ok 20 (0 + 8) ((t17 0 ac bs ms qs l).trans ?_))
  refine collR_run (loop170 20 (0 + 4) hB hl hp) (fun h => ?_) (fun h => ?_) (fun h => ?_)
  · rw [h]
    rfl
  · cases ho : outL ac.length (shP ac bs ms qs l) with
    | nil => exact absurd ho h
    | cons a t => rfl
  · cases ho : outL ac.length (shP ac bs ms qs l) with
    | nil => exact absurd ho h
    | cons a t => rfl
theorem loop150 (L m : Nat) {x : List (List DV)} (hl : x.length ≤ 1000) (hz : ∀ e ∈ x, okRow z1 e = true) :
    LoopOk (LB tab noSp lN L (m+4) h150 c15l0) (S150 x x 0) (.ex 0, St.of [] []) := by
  refine loop_meas (fun j : Nat => S150 x x (j : Nat)) (fun j => x.length - j) (fun j => j ≤ x.length) (fun _ => (.ex 0, St.of [] [])) (fun j hs => ?_) 0 (Nat.zero_le _)
  by_cases hj : j < x.length
  · left
    refine ⟨j + 1, hj, by omega, rfl, fun K => ?_⟩
    rw [s150, lt_dec hj, cond_true, look_nat hj, hz _ (List.getElem_mem hj), cond_true, look_nat hj, hz _ (List.getElem_mem hj), cond_true, bne_self_eq_false, cond_false, wrap_succ (by omega)]
    rfl
  · right
    have : j = x.length := by omega
    subst this
    refine ⟨by simp, fun K => ?_⟩
    rw [s150, lt_dec_self]
    rfl
theorem ints15 : intsS.ok Try.prog 15 := fun ds r hD hv => by
  obtain ⟨x, y, rfl, hx, hy, he, hl, hz⟩ := hD
  cases hv
  refine EntX.gen2 hx hy ?_
  rw [← he]
  generalize rowsA x = l at *
  refine spec_run (lsp := lN) tab_ok noSp_ok 20 (0 + 8) ((t15 0 l l).trans ?_)
  rw [bne_self_eq_false, cond_false]
  exact need_pos (loop150 20 (0 + 4) hl hz)
theorem spP_ok : ∀ f s, spP f = some s → s.ok Try.prog f := spAdd_ok con28 (spAdd_ok sho16 (spAdd_ok all14 (spAdd_ok rsho17 noSp_ok)))
theorem po_of {n : Nat} {e : List DV} (hz : okRow z7 e = true) (h : mayE n e = true) : PO n e := by
  unfold mayE mayB at h
  simp at h
  exact ⟨hz, by omega, by omega, by omega, by omega, by omega, by omega, by omega, by omega, by omega⟩
theorem may_of {n : Nat} {e : List DV} (h : PO n e) : mayE n e = true := by
  obtain ⟨_, h1, h2, h3, h4, h5, h6, h7, h8, h9⟩ := h
  unfold mayE mayB
  simp
  omega
end Go.Proofs.Ythjcfiekdejdgaa
