/- RowClass's own loop. No condition. -/
import Derived.Test.YtngghbloijkfoaaRj
namespace Go.Proofs.Ytngghbloijkfoaa
open Go Go.Proofs Go.RowKit Vm
set_option linter.unusedVariables false
set_option linter.unusedSimpArgs false
def S8 (c a0 a1 a2 a3 a4 a5 a6 : Int) (m r o : List (List DV)) (i : Int) : St := St.of [(2, .d (.int .i64 c)), (7, .ptr 7 7 0 0), (8, .d (.sla false 7 m)), (10, .d (.sla false 7 r)), (14, .d (.sla false 7 o)), (17, .d (.int .i64 i))] [(46, none), (53, none), (85, none), (7, some (.dat 38 7 [[.int .i64 a0, .int .i64 a1, .int .i64 a2, .int .i64 a3, .int .i64 a4, .int .i64 a5, .int .i64 a6]]))]
def X8 (c a0 a1 a2 a3 a4 a5 a6 : Int) (r o : List (List DV)) : St := St.of [(2, .d (.int .i64 c)), (7, .ptr 7 7 0 0), (10, .d (.sla false 7 r)), (14, .d (.sla false 7 o))] [(53, none), (85, none), (7, some (.dat 38 7 [[.int .i64 a0, .int .i64 a1, .int .i64 a2, .int .i64 a3, .int .i64 a4, .int .i64 a5, .int .i64 a6]]))]
theorem s80 (L n : Nat) (c a0 a1 a2 a3 a4 a5 a6 : Int) (m r o : List (List DV)) (i : Nat) (k : Kont) : LB tab spM7 lm L (n+4) h80 c8l0 (S8 c a0 a1 a2 a3 a4 a5 a6 m r o i) k =
   (bif decide ((↑i : Int) < (↑m.length : Int)) then
 lookK m[i]? fun (e1 : List DV) =>
 bif
 okRow
 [DV.int .i64 0, DV.int .i64 0, DV.int .i64 0, DV.int .i64 0, DV.int .i64 0, DV.int .i64 0, DV.int .i64 0]
 e1 then
 bif (cellA e1 1).toI == a1 then
 lookK m[i]? fun (e5 : List DV) =>
 bif
 okRow
 [DV.int .i64 0, DV.int .i64 0, DV.int .i64 0, DV.int .i64 0, DV.int .i64 0, DV.int .i64 0, DV.int .i64 0]
 e5 then
 bif (cellA e5 4).toI == c then k Ex.ret (St.of [(6, AV.d (DV.bool false))] [(124, none), (130, none)])
 else
 k Ex.nrm
 (St.of
 [(2, AV.d (DV.int .i64 c)), (7, AV.ptr 7 7 0 0),
 ((8 : Nat), AV.d (DV.sla false 7 m)), (10, AV.d (DV.sla false 7 r)),
 ((14 : Nat), AV.d (DV.sla false 7 o)), (17, AV.d (DV.int .i64 (IntKind.i64.wrap ((↑i : Int) + (1 : Int)))))]
 [(46, none), (53, none), (85, none),
 ((7 : Nat),
 some
 (Ob.dat 38 7
 [[DV.int .i64 a0, DV.int .i64 a1, DV.int .i64 a2, DV.int .i64 a3, DV.int .i64 a4, DV.int .i64 a5, DV.int .i64 a6]]))])
 else none
 else
 k Ex.nrm
 (St.of
 [(2, AV.d (DV.int .i64 c)), (7, AV.ptr 7 7 0 0),
 ((8 : Nat), AV.d (DV.sla false 7 m)), (10, AV.d (DV.sla false 7 r)), (14, AV.d (DV.sla false 7 o)),
 ((17 : Nat), AV.d (DV.int .i64 (IntKind.i64.wrap ((↑i : Int) + (1 : Int)))))]
 [(46, none), (53, none), (85, none),
 ((7 : Nat),
 some
 (Ob.dat 38 7
 [[DV.int .i64 a0, DV.int .i64 a1, DV.int .i64 a2, DV.int .i64 a3, DV.int .i64 a4, DV.int .i64 a5, DV.int .i64 a6]]))])
 else none
 else
 k (Ex.ex (0 : Nat))
 (St.of
 [(2, AV.d (DV.int .i64 c)), (7, AV.ptr 7 7 0 0), (10, AV.d (DV.sla false 7 r)),
 ((14 : Nat), AV.d (DV.sla false 7 o))]
 [(53, none), (85, none),
 ((7 : Nat),
 some
 (Ob.dat 38 7
 [[DV.int .i64 a0, DV.int .i64 a1, DV.int .i64 a2, DV.int .i64 a3, DV.int .i64 a4, DV.int .i64 a5, DV.int .i64 a6]]))])) :=
  (show LB tab spM7 lm L (n+4) h80 c8l0 (S8 c a0 a1 a2 a3 a4 a5 a6 m r o i) k =
 (cond (decide ((↑i : Int) < (↑m.length : Int)))
 (lookK (m[(↑i : Int).toNat]?)
 fun e1 =>
 (cond (okRow [DV.int .i64 0, DV.int .i64 0, DV.int .i64 0, DV.int .i64 0, DV.int .i64 0, DV.int .i64 0, DV.int .i64 0] e1)
 (cond ((cellA e1 1).toI == a1)
 (lookK (m[(↑i : Int).toNat]?)
 fun e5 =>
 (cond (okRow [DV.int .i64 0, DV.int .i64 0, DV.int .i64 0, DV.int .i64 0, DV.int .i64 0, DV.int .i64 0, DV.int .i64 0] e5)
 (cond ((cellA e5 4).toI == c)
 (k .ret (St.of [(6, (.d (.bool false)))] [(124, .none), (130, .none)]))
 (k .nrm (St.of [(2, (.d (.int .i64 c))), (7, (.ptr 7 7 0 0)), (8, (.d (.sla false 7 m))), (10, (.d (.sla false 7 r))), (14, (.d (.sla false 7 o))), (17, (.d (.int .i64 (IntKind.i64.wrap ((↑i : Int) + (1 : Int))))))] [(46, .none), (53, .none), (85, .none), (7, (.some (.dat 38 7 [[(.int .i64 a0), (.int .i64 a1), (.int .i64 a2), (.int .i64 a3), (.int .i64 a4), (.int .i64 a5), (.int .i64 a6)]])))])))
 none))
 (k .nrm (St.of [(2, (.d (.int .i64 c))), (7, (.ptr 7 7 0 0)), (8, (.d (.sla false 7 m))), (10, (.d (.sla false 7 r))), (14, (.d (.sla false 7 o))), (17, (.d (.int .i64 (IntKind.i64.wrap ((↑i : Int) + (1 : Int))))))] [(46, .none), (53, .none), (85, .none), (7, (.some (.dat 38 7 [[(.int .i64 a0), (.int .i64 a1), (.int .i64 a2), (.int .i64 a3), (.int .i64 a4), (.int .i64 a5), (.int .i64 a6)]])))])))
 none))
 (k (.ex 0) (St.of [(2, (.d (.int .i64 c))), (7, (.ptr 7 7 0 0)), (10, (.d (.sla false 7 r))), (14, (.d (.sla false 7 o)))] [(53, .none), (85, .none), (7, (.some (.dat 38 7 [[(.int .i64 a0), (.int .i64 a1), (.int .i64 a2), (.int .i64 a3), (.int .i64 a4), (.int .i64 a5), (.int .i64 a6)]])))]))) from by kernel_rfl).trans (by first | rfl | (simp only [decide_true, decide_false, eq_self, and_true, true_and, and_self, cond_true, cond_false, Nat.le_refl, Int.le_refl, Option.getD_some, Option.getD_none, Int.toNat_natCast, List.take_length, List.drop_zero, Nat.zero_add, List.nil_append, List.all_nil, List.append_nil, Bool.true_and, Bool.and_true, rowsA_sla, rowsA_sl, rowsA_nil, minus_zero, nat_le_cast, nat_nonneg, Option.isSome_some, Option.isSome_none, Bool.false_eq_true, false_and, and_false, if_true, if_false, implies_true, Int.toNat_zero, Bool.not_false, Bool.not_true, bne_self_eq_false]; done) | (simp only [decide_true, decide_false, eq_self, and_true, true_and, and_self, cond_true, cond_false, Nat.le_refl, Int.le_refl, Option.getD_some, Option.getD_none, Int.toNat_natCast, List.take_length, List.drop_zero, Nat.zero_add, List.nil_append, List.all_nil, List.append_nil, Bool.true_and, Bool.and_true, rowsA_sla, rowsA_sl, rowsA_nil, minus_zero, nat_le_cast, nat_nonneg, Option.isSome_some, Option.isSome_none, Bool.false_eq_true, false_and, and_false, if_true, if_false, implies_true, Int.toNat_zero, Bool.not_false, Bool.not_true, bne_self_eq_false]; rfl))
theorem loop80 (L n : Nat) (c a0 a1 a2 a3 a4 a5 a6 : Int) {m : List (List DV)} (r o : List (List DV)) (hz : ∀ e ∈ m, okRow z7 e = true) (hl : m.length ≤ 1000) (b : Nat) (hb : b ≤ m.length)
    (hno : ∀ i (hi : i < m.length), b ≤ i → ¬ (frm m[i] = a1 ∧ cls m[i] = c)) :
    LoopOk (LB tab spM7 lm L (n+4) h80 c8l0) (S8 c a0 a1 a2 a3 a4 a5 a6 m r o (b : Nat)) (.ex 0, X8 c a0 a1 a2 a3 a4 a5 a6 r o) := by
  refine loop_meas (fun i : Nat => S8 c a0 a1 a2 a3 a4 a5 a6 m r o (i : Nat)) (fun i => m.length - i) (fun i => b ≤ i ∧ i ≤ m.length) (fun _ => (.ex 0, X8 c a0 a1 a2 a3 a4 a5 a6 r o)) (fun i hs => ?_) b ⟨Nat.le_refl _, hb⟩
  obtain ⟨h1, h2⟩ := hs
  by_cases hi : i < m.length
  · left
    refine ⟨i + 1, ⟨by omega, hi⟩, by omega, rfl, fun k => ?_⟩
    have hzi := hz _ (List.getElem_mem hi)
    have hn := hno i hi h1
    rw [s80, lt_dec hi, cond_true, wrap_succ (by omega)]
    simp only [look_nat hi, hzi, cond_true]
    by_cases hf : frm m[i] = a1
    · have e1 : ((cellA m[i] 1).toI == a1) = true := beq_iff_eq.2 hf
      have e2 : ((cellA m[i] 4).toI == c) = false := beq_eq_false_iff_ne.2 fun h => hn ⟨hf, h⟩
      rw [e1, e2]
      rfl
    · have e1 : ((cellA m[i] 1).toI == a1) = false := beq_eq_false_iff_ne.2 hf
      rw [e1]
      rfl
  · right
    refine ⟨by simp, fun k => ?_⟩
    rw [s80, decide_eq_false (show ¬ ((i : Nat) : Int) < (m.length : Int) by omega)]
    rfl
end Go.Proofs.Ytngghbloijkfoaa
