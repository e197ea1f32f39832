/- What fits, by both: may all be, who falls short; the runs. No condition. -/
import Derived.Test.YthjcfiekdejdgaaGm
import Derived.Test.YthjcfiekdejdgaaVmT
namespace Go.Proofs.Ythjcfiekdejdgaa
open Go Go.Proofs Go.RowKit Vm
set_option linter.unusedVariables false
set_option linter.unusedSimpArgs false
def mayS : FSpec where
  D ds := ∃ ac bs ms qs a0 f t a c a5 a6, ds = [.agg (bk ac bs ms qs), .agg [.int .i64 a0, .int .i64 f, .int .i64 t, .int .i64 a, .int .i64 c, .int .i64 a5, .int .i64 a6]]
  val ds := match ds with | [.agg [.sla _ _ ac, .sla _ _ bs, .sla _ _ ms, .sla _ _ qs], .agg [_, .int _ f, .int _ t, .int _ a, .int _ c, _, _]] => some (.bool (mayB ac.length f t a c)) | _ => none
def S140 (l : List (List DV)) (b : List DV) (j : Int) : St := St.of [(1, .d (.sla false 7 l)), (2, .d (.rptr b 0)), (5, .d (.int .i64 j))] [(2, none)]
def l140 : LSpec := fun st => match st.env 1, st.env 2 with
  | .d (.sla q s l), .d (.rptr [.sla _ _ ac, .sla _ _ bs, .sla _ _ ms, .sla _ _ qs] _) =>
    .br (l.all (mayE ac.length)) (.one (.ex 0) (St.of [(1, .d (.sla q s l))] [])) (.one .ret (St.of [(4, .d (.bool false))] []))
  | _, _ => .no
def S170 (l : List (List DV)) (b : List DV) (v : AV) (i : Int) (o1 o2 : Option Ob) : St := St.of [(1, .d (.sla false 7 l)), (2, .d (.rptr b 0)), (5, v), (6, .d (.int .i64 i))] [(21, o1), (50021, o2), (2, none)]
def E170 (v : AV) (o1 o2 : Option Ob) : St := St.of [(5, v)] [(21, o1), (50021, o2)]
def l170 : LSpec := fun st => match st.env 1, st.env 2 with
  | .d (.sla _ _ l), .d (.rptr [.sla _ _ ac, .sla _ _ bs, .sla _ _ ms, .sla _ _ qs] _) =>
    collR E170 21 50021 3 1 (outL ac.length (shP ac bs ms qs l))
  | _, _ => .no
def S150 (x y : List (List DV)) (j : Int) : St := St.of [(0, .d (.sla false 1 x)), (1, .d (.sla false 1 y)), (5, .d (.int .i64 j))] []
def l150 : LSpec := fun st => .one (.ex 0) (St.of [] [])
def lN (k : Nat) : Option LSpec := if k = 140 then some l140 else if k = 170 then some l170 else if k = 150 then some l150 else none
noncomputable def spN : FuncId → Option FSpec := spAdd 10 mayS (spAdd 11 mayS (spAdd 32 rshS noSp))
theorem t10 (n : Nat) (ac bs ms qs : List (List DV)) (a0 f t a c a5 a6 : Int) : FK tab noSp lsp0 20 (n+8) 10 [.agg (bk ac bs ms qs), .agg [.int .i64 a0, .int .i64 f, .int .i64 t, .int .i64 a, .int .i64 c, .int .i64 a5, .int .i64 a6]] =
   (some
 (DV.bool
 (bif
 bif
 bif
 bif
 bif
 bif bif bif decide (f ≥ (0 : Int)) then decide (f < (↑ac.length : Int)) else false then decide (t ≥ (0 : Int)) else false then
 decide (t < (↑ac.length : Int))
 else false then
 f != t
 else false then
 decide (a ≥ (1 : Int))
 else false then
 decide (a ≤ (1099511627776 : Int))
 else false then
 decide (c ≥ (1 : Int))
 else false then
 decide (c ≤ (3 : Int))
 else false))) :=
  (show FK tab noSp lsp0 20 (n+8) 10 [.agg (bk ac bs ms qs), .agg [.int .i64 a0, .int .i64 f, .int .i64 t, .int .i64 a, .int .i64 c, .int .i64 a5, .int .i64 a6]] =
 (some (.bool (bif bif bif bif bif bif bif bif decide (f ≥ (0 : Int)) then decide (f < (↑ac.length : Int)) else false then decide (t ≥ (0 : Int)) else false then decide (t < (↑ac.length : Int)) else false then f != t else false then decide (a ≥ (1 : Int)) else false then decide (a ≤ (1099511627776 : Int)) else false then decide (c ≥ (1 : Int)) else false then decide (c ≤ (3 : Int)) else false))) from by kernel_rfl).trans (by first | rfl | (simp only [decide_true, decide_false, eq_self, and_true, true_and, and_self, cond_true, cond_false, Nat.le_refl, Int.le_refl, Option.getD_some, Option.getD_none, Int.toNat_natCast, List.take_length, List.drop_zero, Nat.zero_add, List.nil_append, List.all_nil, List.append_nil, Bool.true_and, Bool.and_true, rowsA_sla, rowsA_sl, rowsA_nil, minus_zero, nat_le_cast, nat_nonneg, Option.isSome_some, Option.isSome_none, Bool.false_eq_true, false_and, and_false, if_true, if_false, implies_true, Int.toNat_zero, Bool.not_false, Bool.not_true, bne_self_eq_false]; done) | (simp only [decide_true, decide_false, eq_self, and_true, true_and, and_self, cond_true, cond_false, Nat.le_refl, Int.le_refl, Option.getD_some, Option.getD_none, Int.toNat_natCast, List.take_length, List.drop_zero, Nat.zero_add, List.nil_append, List.all_nil, List.append_nil, Bool.true_and, Bool.and_true, rowsA_sla, rowsA_sl, rowsA_nil, minus_zero, nat_le_cast, nat_nonneg, Option.isSome_some, Option.isSome_none, Bool.false_eq_true, false_and, and_false, if_true, if_false, implies_true, Int.toNat_zero, Bool.not_false, Bool.not_true, bne_self_eq_false]; rfl))
theorem t11 (n : Nat) (ac bs ms qs : List (List DV)) (a0 f t a c a5 a6 : Int) : FK tab noSp lsp0 20 (n+8) 11 [.agg (bk ac bs ms qs), .agg [.int .i64 a0, .int .i64 f, .int .i64 t, .int .i64 a, .int .i64 c, .int .i64 a5, .int .i64 a6]] =
   (some
 (DV.bool
 (bif
 bif
 bif
 bif
 bif
 bif bif bif decide (f ≥ (0 : Int)) then decide (f < (↑ac.length : Int)) else false then decide (t ≥ (0 : Int)) else false then
 decide (t < (↑ac.length : Int))
 else false then
 f != t
 else false then
 decide (a ≥ (1 : Int))
 else false then
 decide (a ≤ (1099511627776 : Int))
 else false then
 decide (c ≥ (1 : Int))
 else false then
 decide (c ≤ (3 : Int))
 else false))) :=
  (show FK tab noSp lsp0 20 (n+8) 11 [.agg (bk ac bs ms qs), .agg [.int .i64 a0, .int .i64 f, .int .i64 t, .int .i64 a, .int .i64 c, .int .i64 a5, .int .i64 a6]] =
 (some (.bool (bif bif bif bif bif bif bif bif decide (f ≥ (0 : Int)) then decide (f < (↑ac.length : Int)) else false then decide (t ≥ (0 : Int)) else false then decide (t < (↑ac.length : Int)) else false then f != t else false then decide (a ≥ (1 : Int)) else false then decide (a ≤ (1099511627776 : Int)) else false then decide (c ≥ (1 : Int)) else false then decide (c ≤ (3 : Int)) else false))) from by kernel_rfl).trans (by first | rfl | (simp only [decide_true, decide_false, eq_self, and_true, true_and, and_self, cond_true, cond_false, Nat.le_refl, Int.le_refl, Option.getD_some, Option.getD_none, Int.toNat_natCast, List.take_length, List.drop_zero, Nat.zero_add, List.nil_append, List.all_nil, List.append_nil, Bool.true_and, Bool.and_true, rowsA_sla, rowsA_sl, rowsA_nil, minus_zero, nat_le_cast, nat_nonneg, Option.isSome_some, Option.isSome_none, Bool.false_eq_true, false_and, and_false, if_true, if_false, implies_true, Int.toNat_zero, Bool.not_false, Bool.not_true, bne_self_eq_false]; done) | (simp only [decide_true, decide_false, eq_self, and_true, true_and, and_self, cond_true, cond_false, Nat.le_refl, Int.le_refl, Option.getD_some, Option.getD_none, Int.toNat_natCast, List.take_length, List.drop_zero, Nat.zero_add, List.nil_append, List.all_nil, List.append_nil, Bool.true_and, Bool.and_true, rowsA_sla, rowsA_sl, rowsA_nil, minus_zero, nat_le_cast, nat_nonneg, Option.isSome_some, Option.isSome_none, Bool.false_eq_true, false_and, and_false, if_true, if_false, implies_true, Int.toNat_zero, Bool.not_false, Bool.not_true, bne_self_eq_false]; rfl))
theorem s140 (L n : Nat) (l ac bs ms qs : List (List DV)) (j : Nat) (K : Kont) : LB tab spN lN L (n+4) h140 c14l0 (S140 l (bk ac bs ms qs) j) K =
   (bif decide ((↑j : Int) < (↑l.length : Int)) then
 lookK l[j]? fun (e1 : List DV) =>
 bif
 okRow
 [DV.int .i64 0, DV.int .i64 0, DV.int .i64 0, DV.int .i64 0, DV.int .i64 0, DV.int .i64 0, DV.int .i64 0]
 e1 then
 need
 (mayS.D
 [DV.agg [DV.sla false 3 ac, DV.sla false 1 bs, DV.sla false 1 ms, DV.sla false 1 qs],
 DV.agg
 [DV.int .i64 (cellA e1 0).toI, DV.int .i64 (cellA e1 1).toI, DV.int .i64 (cellA e1 2).toI, DV.int .i64 (cellA e1 3).toI, DV.int .i64 (cellA e1 4).toI, DV.int .i64 (cellA e1 5).toI, DV.int .i64 (cellA e1 6).toI]])
 (bif !mayB (↑ac.length : Int) (cellA e1 1).toI (cellA e1 2).toI (cellA e1 3).toI (cellA e1 4).toI then
 K Ex.ret (St.of [(4, AV.d (DV.bool false))] [])
 else
 K Ex.nrm
 (St.of
 [(1, AV.d (DV.sla false 7 l)),
 ((2 : Nat),
 AV.d (DV.rptr [DV.sla false 3 ac, DV.sla false 1 bs, DV.sla false 1 ms, DV.sla false 1 qs] (0 : Nat))),
 ((5 : Nat), AV.d (DV.int .i64 (IntKind.i64.wrap ((↑j : Int) + (1 : Int)))))]
 [(2, none)]))
 else none
 else K (Ex.ex (0 : Nat)) (St.of [(1, AV.d (DV.sla false 7 l))] [])) :=
  (show LB tab spN lN L (n+4) h140 c14l0 (S140 l (bk ac bs ms qs) j) K =
 (cond (decide ((↑j : Int) < (↑l.length : Int)))
 (lookK (l[(↑j : Int).toNat]?)
 fun e1 =>
 (cond (okRow [DV.int .i64 0, DV.int .i64 0, DV.int .i64 0, DV.int .i64 0, DV.int .i64 0, DV.int .i64 0, DV.int .i64 0] e1)
 (need (FSpec.D (mayS) [(.agg [(.sla false 3 ac), (.sla false 1 bs), (.sla false 1 ms), (.sla false 1 qs)]), (.agg [(.int .i64 ((cellA e1 0).toI)), (.int .i64 ((cellA e1 1).toI)), (.int .i64 ((cellA e1 2).toI)), (.int .i64 ((cellA e1 3).toI)), (.int .i64 ((cellA e1 4).toI)), (.int .i64 ((cellA e1 5).toI)), (.int .i64 ((cellA e1 6).toI))])])
 (cond (!mayB (↑ac.length : Int) (cellA e1 1).toI (cellA e1 2).toI (cellA e1 3).toI (cellA e1 4).toI)
 (K .ret (St.of [(4, (.d (.bool false)))] []))
 (K .nrm (St.of [(1, (.d (.sla false 7 l))), (2, (.d (.rptr [(.sla false 3 ac), (.sla false 1 bs), (.sla false 1 ms), (.sla false 1 qs)] 0))), (5, (.d (.int .i64 (IntKind.i64.wrap ((↑j : Int) + (1 : Int))))))] [(2, .none)]))))
 none))
 (K (.ex 0) (St.of [(1, (.d (.sla false 7 l)))] []))) from by kernel_rfl).trans (by first | rfl | (simp only [decide_true, decide_false, eq_self, and_true, true_and, and_self, cond_true, cond_false, Nat.le_refl, Int.le_refl, Option.getD_some, Option.getD_none, Int.toNat_natCast, List.take_length, List.drop_zero, Nat.zero_add, List.nil_append, List.all_nil, List.append_nil, Bool.true_and, Bool.and_true, rowsA_sla, rowsA_sl, rowsA_nil, minus_zero, nat_le_cast, nat_nonneg, Option.isSome_some, Option.isSome_none, Bool.false_eq_true, false_and, and_false, if_true, if_false, implies_true, Int.toNat_zero, Bool.not_false, Bool.not_true, bne_self_eq_false]; done) | (simp only [decide_true, decide_false, eq_self, and_true, true_and, and_self, cond_true, cond_false, Nat.le_refl, Int.le_refl, Option.getD_some, Option.getD_none, Int.toNat_natCast, List.take_length, List.drop_zero, Nat.zero_add, List.nil_append, List.all_nil, List.append_nil, Bool.true_and, Bool.and_true, rowsA_sla, rowsA_sl, rowsA_nil, minus_zero, nat_le_cast, nat_nonneg, Option.isSome_some, Option.isSome_none, Bool.false_eq_true, false_and, and_false, if_true, if_false, implies_true, Int.toNat_zero, Bool.not_false, Bool.not_true, bne_self_eq_false]; rfl))
theorem t14 (n : Nat) (ac bs ms qs l : List (List DV)) : FK tab spN lN 20 (n+8) 14 [.agg (bk ac bs ms qs), .sla false 7 l] =
   (bif l.all (mayE ac.length) then
 need
 (LoopOk (LB tab spN lN (20 : Nat) (n + (8 : Nat)) h140 c14l0)
 (St.of
 [(1, AV.d (DV.sla false 7 l)),
 ((2 : Nat),
 AV.d (DV.rptr [DV.sla false 3 ac, DV.sla false 1 bs, DV.sla false 1 ms, DV.sla false 1 qs] (0 : Nat))),
 ((5 : Nat), AV.d (DV.int .i64 0))]
 [(2, none)])
 (Ex.ex (0 : Nat), St.of [(1, AV.d (DV.sla false 7 l))] []))
 (some (DV.bool (decide ((↑l.length : Int) ≤ (64 : Int)))))
 else
 need
 (LoopOk (LB tab spN lN (20 : Nat) (n + (8 : Nat)) h140 c14l0)
 (St.of
 [(1, AV.d (DV.sla false 7 l)),
 ((2 : Nat),
 AV.d (DV.rptr [DV.sla false 3 ac, DV.sla false 1 bs, DV.sla false 1 ms, DV.sla false 1 qs] (0 : Nat))),
 ((5 : Nat), AV.d (DV.int .i64 0))]
 [(2, none)])
 (Ex.ret, St.of [(4, AV.d (DV.bool false))] []))
 (some (DV.bool false))) :=
  (show FK tab spN lN 20 (n+8) 14 [.agg (bk ac bs ms qs), .sla false 7 l] =
 (cond (l.all (mayE ac.length))
 (need (LoopOk (LB tab spN lN ((20 : Nat)) (n + (8 : Nat)) h140 c14l0) (St.of [(1, (.d (.sla false 7 l))), (2, (.d (.rptr [(.sla false 3 ac), (.sla false 1 bs), (.sla false 1 ms), (.sla false 1 qs)] 0))), (5, (.d (.int .i64 ((0 : Int)))))] [(2, .none)]) ((.ex 0), (St.of [(1, (.d (.sla false 7 l)))] [])))
 (some (.bool (decide ((↑l.length : Int) ≤ (64 : Int))))))
 (need (LoopOk (LB tab spN lN ((20 : Nat)) (n + (8 : Nat)) h140 c14l0) (St.of [(1, (.d (.sla false 7 l))), (2, (.d (.rptr [(.sla false 3 ac), (.sla false 1 bs), (.sla false 1 ms), (.sla false 1 qs)] 0))), (5, (.d (.int .i64 ((0 : Int)))))] [(2, .none)]) (.ret, (St.of [(4, (.d (.bool false)))] [])))
 (some (.bool false)))) from by kernel_rfl).trans (by first | rfl | (simp only [decide_true, decide_false, eq_self, and_true, true_and, and_self, cond_true, cond_false, Nat.le_refl, Int.le_refl, Option.getD_some, Option.getD_none, Int.toNat_natCast, List.take_length, List.drop_zero, Nat.zero_add, List.nil_append, List.all_nil, List.append_nil, Bool.true_and, Bool.and_true, rowsA_sla, rowsA_sl, rowsA_nil, minus_zero, nat_le_cast, nat_nonneg, Option.isSome_some, Option.isSome_none, Bool.false_eq_true, false_and, and_false, if_true, if_false, implies_true, Int.toNat_zero, Bool.not_false, Bool.not_true, bne_self_eq_false]; done) | (simp only [decide_true, decide_false, eq_self, and_true, true_and, and_self, cond_true, cond_false, Nat.le_refl, Int.le_refl, Option.getD_some, Option.getD_none, Int.toNat_natCast, List.take_length, List.drop_zero, Nat.zero_add, List.nil_append, List.all_nil, List.append_nil, Bool.true_and, Bool.and_true, rowsA_sla, rowsA_sl, rowsA_nil, minus_zero, nat_le_cast, nat_nonneg, Option.isSome_some, Option.isSome_none, Bool.false_eq_true, false_and, and_false, if_true, if_false, implies_true, Int.toNat_zero, Bool.not_false, Bool.not_true, bne_self_eq_false]; rfl))
theorem s170A (L n : Nat) (l ac bs ms qs : List (List DV)) (j : Nat) (K : Kont) : LB tab spN lN L (n+4) h170 c17l0 (S170 l (bk ac bs ms qs) (.d .nilsl) j none none) K =
   (bif decide ((↑j : Int) < (↑ac.length : Int)) then
 need
 (rshS.D
 [DV.agg [DV.sla false 3 ac, DV.sla false 1 bs, DV.sla false 1 ms, DV.sla false 1 qs], DV.sla false 7 l, DV.int .i64 (↑j : Int)])
 (bif shP ac bs ms qs l j then
 K Ex.nrm
 (St.of
 [(1, AV.d (DV.sla false 7 l)),
 ((2 : Nat),
 AV.d (DV.rptr [DV.sla false 3 ac, DV.sla false 1 bs, DV.sla false 1 ms, DV.sla false 1 qs] (0 : Nat))),
 ((5 : Nat), AV.aref 21 1 0 (1 : Nat)), (6, AV.d (DV.int .i64 (IntKind.i64.wrap ((↑j : Int) + (1 : Int)))))]
 [(21, some (Ob.dat 3 1 [[DV.int .i64 (↑j : Int)]])), (50021, none), (2, none)])
 else
 K Ex.nrm
 (St.of
 [(1, AV.d (DV.sla false 7 l)),
 ((2 : Nat),
 AV.d (DV.rptr [DV.sla false 3 ac, DV.sla false 1 bs, DV.sla false 1 ms, DV.sla false 1 qs] (0 : Nat))),
 ((5 : Nat), AV.d DV.nilsl), (6, AV.d (DV.int .i64 (IntKind.i64.wrap ((↑j : Int) + (1 : Int)))))]
 [(21, none), (50021, none), (2, none)]))
 else K (Ex.ex (0 : Nat)) (St.of [(5, AV.d DV.nilsl)] [(21, none), (50021, none)])) :=
  (show LB tab spN lN L (n+4) h170 c17l0 (S170 l (bk ac bs ms qs) (.d .nilsl) j none none) K =
 (cond (decide ((↑j : Int) < (↑ac.length : Int)))
 (need (FSpec.D (rshS) [(.agg [(.sla false 3 ac), (.sla false 1 bs), (.sla false 1 ms), (.sla false 1 qs)]), (.sla false 7 l), (.int .i64 ((↑j : Int)))])
 (cond (shP ac bs ms qs l (↑j : Int).toNat)
 (K .nrm (St.of [(1, (.d (.sla false 7 l))), (2, (.d (.rptr [(.sla false 3 ac), (.sla false 1 bs), (.sla false 1 ms), (.sla false 1 qs)] 0))), (5, (.aref 21 1 0 1)), (6, (.d (.int .i64 (IntKind.i64.wrap ((↑j : Int) + (1 : Int))))))] [(21, (.some (.dat 3 1 [[(.int .i64 ((↑j : Int)))]]))), (50021, .none), (2, .none)]))
 (K .nrm (St.of [(1, (.d (.sla false 7 l))), (2, (.d (.rptr [(.sla false 3 ac), (.sla false 1 bs), (.sla false 1 ms), (.sla false 1 qs)] 0))), (5, (.d .nilsl)), (6, (.d (.int .i64 (IntKind.i64.wrap ((↑j : Int) + (1 : Int))))))] [(21, .none), (50021, .none), (2, .none)]))))
 (K (.ex 0) (St.of [(5, (.d .nilsl))] [(21, .none), (50021, .none)]))) from by kernel_rfl).trans (by first | rfl | (simp only [decide_true, decide_false, eq_self, and_true, true_and, and_self, cond_true, cond_false, Nat.le_refl, Int.le_refl, Option.getD_some, Option.getD_none, Int.toNat_natCast, List.take_length, List.drop_zero, Nat.zero_add, List.nil_append, List.all_nil, List.append_nil, Bool.true_and, Bool.and_true, rowsA_sla, rowsA_sl, rowsA_nil, minus_zero, nat_le_cast, nat_nonneg, Option.isSome_some, Option.isSome_none, Bool.false_eq_true, false_and, and_false, if_true, if_false, implies_true, Int.toNat_zero, Bool.not_false, Bool.not_true, bne_self_eq_false]; done) | (simp only [decide_true, decide_false, eq_self, and_true, true_and, and_self, cond_true, cond_false, Nat.le_refl, Int.le_refl, Option.getD_some, Option.getD_none, Int.toNat_natCast, List.take_length, List.drop_zero, Nat.zero_add, List.nil_append, List.all_nil, List.append_nil, Bool.true_and, Bool.and_true, rowsA_sla, rowsA_sl, rowsA_nil, minus_zero, nat_le_cast, nat_nonneg, Option.isSome_some, Option.isSome_none, Bool.false_eq_true, false_and, and_false, if_true, if_false, implies_true, Int.toNat_zero, Bool.not_false, Bool.not_true, bne_self_eq_false]; rfl))
theorem s170B (L n : Nat) (l ac bs ms qs O : List (List DV)) (j : Nat) (K : Kont) : LB tab spN lN L (n+4) h170 c17l0 (S170 l (bk ac bs ms qs) (.aref 21 1 0 O.length) j (some (.dat 3 1 O)) none) K =
   (bif decide ((↑j : Int) < (↑ac.length : Int)) then
 need
 (rshS.D
 [DV.agg [DV.sla false 3 ac, DV.sla false 1 bs, DV.sla false 1 ms, DV.sla false 1 qs], DV.sla false 7 l, DV.int .i64 (↑j : Int)])
 (bif shP ac bs ms qs l j then
 bif decide ((O ++ [[DV.int .i64 (↑j : Int)]]).length * (8 : Nat) ≤ room ∧ (O ++ [[DV.int .i64 (↑j : Int)]]).length ≤ room) then
 K Ex.nrm
 (St.of
 [(1, AV.d (DV.sla false 7 l)),
 ((2 : Nat),
 AV.d (DV.rptr [DV.sla false 3 ac, DV.sla false 1 bs, DV.sla false 1 ms, DV.sla false 1 qs] (0 : Nat))),
 ((5 : Nat), AV.aref (alt (21 : Nat) (21 : Nat)) (1 : Nat) (0 : Nat) (O ++ [[DV.int .i64 (↑j : Int)]]).length),
 ((6 : Nat), AV.d (DV.int .i64 (IntKind.i64.wrap ((↑j : Int) + (1 : Int)))))]
 [(21, none), (50021, some (Ob.dat 3 1 (O ++ [[DV.int .i64 (↑j : Int)]]))), (2, none)])
 else none
 else
 K Ex.nrm
 (St.of
 [(1, AV.d (DV.sla false 7 l)),
 ((2 : Nat),
 AV.d (DV.rptr [DV.sla false 3 ac, DV.sla false 1 bs, DV.sla false 1 ms, DV.sla false 1 qs] (0 : Nat))),
 ((5 : Nat), AV.aref 21 1 0 O.length), (6, AV.d (DV.int .i64 (IntKind.i64.wrap ((↑j : Int) + (1 : Int)))))]
 [(21, some (Ob.dat 3 1 O)), (50021, none), (2, none)]))
 else
 K (Ex.ex (0 : Nat))
 (St.of [(5, AV.aref 21 1 0 O.length)] [(21, some (Ob.dat 3 1 O)), (50021, none)])) :=
  (show LB tab spN lN L (n+4) h170 c17l0 (S170 l (bk ac bs ms qs) (.aref 21 1 0 O.length) j (some (.dat 3 1 O)) none) K =
 (cond (decide ((↑j : Int) < (↑ac.length : Int)))
 (need (FSpec.D (rshS) [(.agg [(.sla false 3 ac), (.sla false 1 bs), (.sla false 1 ms), (.sla false 1 qs)]), (.sla false 7 l), (.int .i64 ((↑j : Int)))])
 (cond (shP ac bs ms qs l (↑j : Int).toNat)
 (cond (decide ((3 : TypeId) = (3 : Nat) ∧ (1 : Nat) = (1 : Nat) ∧ (1 : Nat) = (1 : Nat) ∧ (0 : Nat) = (0 : Nat) ∧ O.length = O.length ∧ (O ++ [[DV.int .i64 (↑j : Int)]]).length * (8 : Nat) ≤ room ∧ (O ++ [[DV.int .i64 (↑j : Int)]]).length ≤ room))
 (K .nrm (St.of [(1, (.d (.sla false 7 l))), (2, (.d (.rptr [(.sla false 3 ac), (.sla false 1 bs), (.sla false 1 ms), (.sla false 1 qs)] 0))), (5, (.aref (alt 21 21) 1 0 ((O ++ [[DV.int .i64 (↑j : Int)]]).length))), (6, (.d (.int .i64 (IntKind.i64.wrap ((↑j : Int) + (1 : Int))))))] [(21, .none), (50021, (.some (.dat 3 1 (O ++ [[DV.int .i64 (↑j : Int)]])))), (2, .none)]))
 none)
 (K .nrm (St.of [(1, (.d (.sla false 7 l))), (2, (.d (.rptr [(.sla false 3 ac), (.sla false 1 bs), (.sla false 1 ms), (.sla false 1 qs)] 0))), (5, (.aref 21 1 0 (O.length))), (6, (.d (.int .i64 (IntKind.i64.wrap ((↑j : Int) + (1 : Int))))))] [(21, (.some (.dat 3 1 O))), (50021, .none), (2, .none)]))))
 (K (.ex 0) (St.of [(5, (.aref 21 1 0 (O.length)))] [(21, (.some (.dat 3 1 O))), (50021, .none)]))) from by kernel_rfl).trans (by first | rfl | (simp only [decide_true, decide_false, eq_self, and_true, true_and, and_self, cond_true, cond_false, Nat.le_refl, Int.le_refl, Option.getD_some, Option.getD_none, Int.toNat_natCast, List.take_length, List.drop_zero, Nat.zero_add, List.nil_append, List.all_nil, List.append_nil, Bool.true_and, Bool.and_true, rowsA_sla, rowsA_sl, rowsA_nil, minus_zero, nat_le_cast, nat_nonneg, Option.isSome_some, Option.isSome_none, Bool.false_eq_true, false_and, and_false, if_true, if_false, implies_true, Int.toNat_zero, Bool.not_false, Bool.not_true, bne_self_eq_false]; done) | (simp only [decide_true, decide_false, eq_self, and_true, true_and, and_self, cond_true, cond_false, Nat.le_refl, Int.le_refl, Option.getD_some, Option.getD_none, Int.toNat_natCast, List.take_length, List.drop_zero, Nat.zero_add, List.nil_append, List.all_nil, List.append_nil, Bool.true_and, Bool.and_true, rowsA_sla, rowsA_sl, rowsA_nil, minus_zero, nat_le_cast, nat_nonneg, Option.isSome_some, Option.isSome_none, Bool.false_eq_true, false_and, and_false, if_true, if_false, implies_true, Int.toNat_zero, Bool.not_false, Bool.not_true, bne_self_eq_false]; rfl))
theorem s170C (L n : Nat) (l ac bs ms qs O : List (List DV)) (j : Nat) (K : Kont) : LB tab spN lN L (n+4) h170 c17l0 (S170 l (bk ac bs ms qs) (.aref 50021 1 0 O.length) j none (some (.dat 3 1 O))) K =
   (bif decide ((↑j : Int) < (↑ac.length : Int)) then
 need
 (rshS.D
 [DV.agg [DV.sla false 3 ac, DV.sla false 1 bs, DV.sla false 1 ms, DV.sla false 1 qs], DV.sla false 7 l, DV.int .i64 (↑j : Int)])
 (bif shP ac bs ms qs l j then
 bif decide ((O ++ [[DV.int .i64 (↑j : Int)]]).length * (8 : Nat) ≤ room ∧ (O ++ [[DV.int .i64 (↑j : Int)]]).length ≤ room) then
 K Ex.nrm
 (St.of
 [(1, AV.d (DV.sla false 7 l)),
 ((2 : Nat),
 AV.d (DV.rptr [DV.sla false 3 ac, DV.sla false 1 bs, DV.sla false 1 ms, DV.sla false 1 qs] (0 : Nat))),
 ((5 : Nat), AV.aref (alt (50021 : Nat) (21 : Nat)) (1 : Nat) (0 : Nat) (O ++ [[DV.int .i64 (↑j : Int)]]).length),
 ((6 : Nat), AV.d (DV.int .i64 (IntKind.i64.wrap ((↑j : Int) + (1 : Int)))))]
 [(21, some (Ob.dat 3 1 (O ++ [[DV.int .i64 (↑j : Int)]]))), (50021, none), (2, none)])
 else none
 else
 K Ex.nrm
 (St.of
 [(1, AV.d (DV.sla false 7 l)),
 ((2 : Nat),
 AV.d (DV.rptr [DV.sla false 3 ac, DV.sla false 1 bs, DV.sla false 1 ms, DV.sla false 1 qs] (0 : Nat))),
 ((5 : Nat), AV.aref 50021 1 0 O.length),
 ((6 : Nat), AV.d (DV.int .i64 (IntKind.i64.wrap ((↑j : Int) + (1 : Int)))))]
 [(21, none), (50021, some (Ob.dat 3 1 O)), (2, none)]))
 else
 K (Ex.ex (0 : Nat))
 (St.of [(5, AV.aref 50021 1 0 O.length)] [(21, none), (50021, some (Ob.dat 3 1 O))])) :=
  (show LB tab spN lN L (n+4) h170 c17l0 (S170 l (bk ac bs ms qs) (.aref 50021 1 0 O.length) j none (some (.dat 3 1 O))) K =
 (cond (decide ((↑j : Int) < (↑ac.length : Int)))
 (need (FSpec.D (rshS) [(.agg [(.sla false 3 ac), (.sla false 1 bs), (.sla false 1 ms), (.sla false 1 qs)]), (.sla false 7 l), (.int .i64 ((↑j : Int)))])
 (cond (shP ac bs ms qs l (↑j : Int).toNat)
 (cond (decide ((3 : TypeId) = (3 : Nat) ∧ (1 : Nat) = (1 : Nat) ∧ (1 : Nat) = (1 : Nat) ∧ (0 : Nat) = (0 : Nat) ∧ O.length = O.length ∧ (O ++ [[DV.int .i64 (↑j : Int)]]).length * (8 : Nat) ≤ room ∧ (O ++ [[DV.int .i64 (↑j : Int)]]).length ≤ room))
 (K .nrm (St.of [(1, (.d (.sla false 7 l))), (2, (.d (.rptr [(.sla false 3 ac), (.sla false 1 bs), (.sla false 1 ms), (.sla false 1 qs)] 0))), (5, (.aref (alt 50021 21) 1 0 ((O ++ [[DV.int .i64 (↑j : Int)]]).length))), (6, (.d (.int .i64 (IntKind.i64.wrap ((↑j : Int) + (1 : Int))))))] [(21, (.some (.dat 3 1 (O ++ [[DV.int .i64 (↑j : Int)]])))), (50021, .none), (2, .none)]))
 none)
 (K .nrm (St.of [(1, (.d (.sla false 7 l))), (2, (.d (.rptr [(.sla false 3 ac), (.sla false 1 bs), (.sla false 1 ms), (.sla false 1 qs)] 0))), (5, (.aref 50021 1 0 (O.length))), (6, (.d (.int .i64 (IntKind.i64.wrap ((↑j : Int) + (1 : Int))))))] [(21, .none), (50021, (.some (.dat 3 1 O))), (2, .none)]))))
 (K (.ex 0) (St.of [(5, (.aref 50021 1 0 (O.length)))] [(21, .none), (50021, (.some (.dat 3 1 O)))]))) from by kernel_rfl).trans (by first | rfl | (simp only [decide_true, decide_false, eq_self, and_true, true_and, and_self, cond_true, cond_false, Nat.le_refl, Int.le_refl, Option.getD_some, Option.getD_none, Int.toNat_natCast, List.take_length, List.drop_zero, Nat.zero_add, List.nil_append, List.all_nil, List.append_nil, Bool.true_and, Bool.and_true, rowsA_sla, rowsA_sl, rowsA_nil, minus_zero, nat_le_cast, nat_nonneg, Option.isSome_some, Option.isSome_none, Bool.false_eq_true, false_and, and_false, if_true, if_false, implies_true, Int.toNat_zero, Bool.not_false, Bool.not_true, bne_self_eq_false]; done) | (simp only [decide_true, decide_false, eq_self, and_true, true_and, and_self, cond_true, cond_false, Nat.le_refl, Int.le_refl, Option.getD_some, Option.getD_none, Int.toNat_natCast, List.take_length, List.drop_zero, Nat.zero_add, List.nil_append, List.all_nil, List.append_nil, Bool.true_and, Bool.and_true, rowsA_sla, rowsA_sl, rowsA_nil, minus_zero, nat_le_cast, nat_nonneg, Option.isSome_some, Option.isSome_none, Bool.false_eq_true, false_and, and_false, if_true, if_false, implies_true, Int.toNat_zero, Bool.not_false, Bool.not_true, bne_self_eq_false]; rfl))
theorem t17 (n : Nat) (ac bs ms qs l : List (List DV)) : FK tab spN lN 20 (n+8) 17 [.agg (bk ac bs ms qs), .sla false 7 l] =
   (bif (outL ac.length (shP ac bs ms qs l)).isEmpty then
 need
 (LoopOk (LB tab spN lN (20 : Nat) (n + (8 : Nat)) h170 c17l0)
 (St.of
 [(1, AV.d (DV.sla false 7 l)),
 ((2 : Nat),
 AV.d (DV.rptr [DV.sla false 3 ac, DV.sla false 1 bs, DV.sla false 1 ms, DV.sla false 1 qs] (0 : Nat))),
 ((5 : Nat), AV.d DV.nilsl), (6, AV.d (DV.int .i64 0))]
 [(21, none), (50021, none), (2, none)])
 (Ex.ex (0 : Nat), St.of [(5, AV.d DV.nilsl)] [(21, none), (50021, none)]))
 (some DV.nilsl)
 else
 bif parB ((outL ac.length (shP ac bs ms qs l)).length - (1 : Nat)) then
 need
 (LoopOk (LB tab spN lN (20 : Nat) (n + (8 : Nat)) h170 c17l0)
 (St.of
 [(1, AV.d (DV.sla false 7 l)),
 ((2 : Nat),
 AV.d (DV.rptr [DV.sla false 3 ac, DV.sla false 1 bs, DV.sla false 1 ms, DV.sla false 1 qs] (0 : Nat))),
 ((5 : Nat), AV.d DV.nilsl), (6, AV.d (DV.int .i64 0))]
 [(21, none), (50021, none), (2, none)])
 (Ex.ex (0 : Nat),
 St.of [(5, AV.aref 21 1 0 (outL ac.length (shP ac bs ms qs l)).length)]
 [(21, some (Ob.dat 3 1 (outL ac.length (shP ac bs ms qs l)))), (50021, none)]))
 (some (DV.sl (SK.own (3 : Nat)) (1 : Nat) (outL ac.length (shP ac bs ms qs l))))
 else
 need
 (LoopOk (LB tab spN lN (20 : Nat) (n + (8 : Nat)) h170 c17l0)
 (St.of
 [(1, AV.d (DV.sla false 7 l)),
 ((2 : Nat),
 AV.d (DV.rptr [DV.sla false 3 ac, DV.sla false 1 bs, DV.sla false 1 ms, DV.sla false 1 qs] (0 : Nat))),
 ((5 : Nat), AV.d DV.nilsl), (6, AV.d (DV.int .i64 0))]
 [(21, none), (50021, none), (2, none)])
 (Ex.ex (0 : Nat),
 St.of [(5, AV.aref 50021 1 0 (outL ac.length (shP ac bs ms qs l)).length)]
 [(21, none), (50021, some (Ob.dat 3 1 (outL ac.length (shP ac bs ms qs l))))]))
 (some (DV.sl (SK.own (3 : Nat)) (1 : Nat) (outL ac.length (shP ac bs ms qs l))))) :=
  (show FK tab spN lN 20 (n+8) 17 [.agg (bk ac bs ms qs), .sla false 7 l] =
 (cond ((outL ac.length (shP ac bs ms qs l)).isEmpty)
 (need (LoopOk (LB tab spN lN ((20 : Nat)) (n + (8 : Nat)) h170 c17l0) (St.of [(1, (.d (.sla false 7 l))), (2, (.d (.rptr [(.sla false 3 ac), (.sla false 1 bs), (.sla false 1 ms), (.sla false 1 qs)] 0))), (5, (.d .nilsl)), (6, (.d (.int .i64 ((0 : Int)))))] [(21, .none), (50021, .none), (2, .none)]) ((.ex 0), (St.of [(5, (.d .nilsl))] [(21, .none), (50021, .none)])))
 (some .nilsl))
 (cond (parB ((outL ac.length (shP ac bs ms qs l)).length - (1 : Nat)))
 (need (LoopOk (LB tab spN lN ((20 : Nat)) (n + (8 : Nat)) h170 c17l0) (St.of [(1, (.d (.sla false 7 l))), (2, (.d (.rptr [(.sla false 3 ac), (.sla false 1 bs), (.sla false 1 ms), (.sla false 1 qs)] 0))), (5, (.d .nilsl)), (6, (.d (.int .i64 ((0 : Int)))))] [(21, .none), (50021, .none), (2, .none)]) ((.ex 0), (St.of [(5, (.aref 21 1 0 ((outL ac.length (shP ac bs ms qs l)).length)))] [(21, (.some (.dat 3 1 (outL ac.length (shP ac bs ms qs l))))), (50021, .none)])))
 (cond (decide ((outL ac.length (shP ac bs ms qs l)).length = (outL ac.length (shP ac bs ms qs l)).length))
 (some (.sl (SK.own (3 : Nat)) 1 (outL ac.length (shP ac bs ms qs l))))
 (cond (decide ((0 : Nat) + (outL ac.length (shP ac bs ms qs l)).length ≤ (outL ac.length (shP ac bs ms qs l)).length))
 (some (.sl (SK.ro) 1 (List.take (outL ac.length (shP ac bs ms qs l)).length (outL ac.length (shP ac bs ms qs l)))))
 none)))
 (need (LoopOk (LB tab spN lN ((20 : Nat)) (n + (8 : Nat)) h170 c17l0) (St.of [(1, (.d (.sla false 7 l))), (2, (.d (.rptr [(.sla false 3 ac), (.sla false 1 bs), (.sla false 1 ms), (.sla false 1 qs)] 0))), (5, (.d .nilsl)), (6, (.d (.int .i64 ((0 : Int)))))] [(21, .none), (50021, .none), (2, .none)]) ((.ex 0), (St.of [(5, (.aref 50021 1 0 ((outL ac.length (shP ac bs ms qs l)).length)))] [(21, .none), (50021, (.some (.dat 3 1 (outL ac.length (shP ac bs ms qs l)))))])))
 (cond (decide ((outL ac.length (shP ac bs ms qs l)).length = (outL ac.length (shP ac bs ms qs l)).length))
 (some (.sl (SK.own (3 : Nat)) 1 (outL ac.length (shP ac bs ms qs l))))
 (cond (decide ((0 : Nat) + (outL ac.length (shP ac bs ms qs l)).length ≤ (outL ac.length (shP ac bs ms qs l)).length))
 (some (.sl (SK.ro) 1 (List.take (outL ac.length (shP ac bs ms qs l)).length (outL ac.length (shP ac bs ms qs l)))))
 none))))) from by kernel_rfl).trans (by first | rfl | (simp only [decide_true, decide_false, eq_self, and_true, true_and, and_self, cond_true, cond_false, Nat.le_refl, Int.le_refl, Option.getD_some, Option.getD_none, Int.toNat_natCast, List.take_length, List.drop_zero, Nat.zero_add, List.nil_append, List.all_nil, List.append_nil, Bool.true_and, Bool.and_true, rowsA_sla, rowsA_sl, rowsA_nil, minus_zero, nat_le_cast, nat_nonneg, Option.isSome_some, Option.isSome_none, Bool.false_eq_true, false_and, and_false, if_true, if_false, implies_true, Int.toNat_zero, Bool.not_false, Bool.not_true, bne_self_eq_false]; done) | (simp only [decide_true, decide_false, eq_self, and_true, true_and, and_self, cond_true, cond_false, Nat.le_refl, Int.le_refl, Option.getD_some, Option.getD_none, Int.toNat_natCast, List.take_length, List.drop_zero, Nat.zero_add, List.nil_append, List.all_nil, List.append_nil, Bool.true_and, Bool.and_true, rowsA_sla, rowsA_sl, rowsA_nil, minus_zero, nat_le_cast, nat_nonneg, Option.isSome_some, Option.isSome_none, Bool.false_eq_true, false_and, and_false, if_true, if_false, implies_true, Int.toNat_zero, Bool.not_false, Bool.not_true, bne_self_eq_false]; rfl))
theorem s150 (L n : Nat) (x y : List (List DV)) (j : Nat) (K : Kont) : LB tab noSp lN L (n+4) h150 c15l0 (S150 x y j) K =
   (bif decide ((↑j : Int) < (↑x.length : Int)) then
 lookK x[j]? fun (e1 : List DV) =>
 bif okRow [DV.int .i64 0] e1 then
 lookK y[j]? fun (e4 : List DV) =>
 bif okRow [DV.int .i64 0] e4 then
 bif (cellA e1 0).toI != (cellA e4 0).toI then K Ex.ret (St.of [(4, AV.d (DV.bool false))] [])
 else
 K Ex.nrm
 (St.of
 [(0, AV.d (DV.sla false 1 x)), (1, AV.d (DV.sla false 1 y)),
 ((5 : Nat), AV.d (DV.int .i64 (IntKind.i64.wrap ((↑j : Int) + (1 : Int)))))]
 [])
 else none
 else none
 else K (Ex.ex (0 : Nat)) (St.of [] [])) :=
  (show LB tab noSp lN L (n+4) h150 c15l0 (S150 x y j) K =
 (cond (decide ((↑j : Int) < (↑x.length : Int)))
 (lookK (x[(↑j : Int).toNat]?)
 fun e1 =>
 (cond (okRow [DV.int .i64 0] e1)
 (lookK (y[(↑j : Int).toNat]?)
 fun e4 =>
 (cond (okRow [DV.int .i64 0] e4)
 (cond ((cellA e1 0).toI != (cellA e4 0).toI)
 (K .ret (St.of [(4, (.d (.bool false)))] []))
 (K .nrm (St.of [(0, (.d (.sla false 1 x))), (1, (.d (.sla false 1 y))), (5, (.d (.int .i64 (IntKind.i64.wrap ((↑j : Int) + (1 : Int))))))] [])))
 none))
 none))
 (K (.ex 0) (St.of [] []))) from by kernel_rfl).trans (by first | rfl | (simp only [decide_true, decide_false, eq_self, and_true, true_and, and_self, cond_true, cond_false, Nat.le_refl, Int.le_refl, Option.getD_some, Option.getD_none, Int.toNat_natCast, List.take_length, List.drop_zero, Nat.zero_add, List.nil_append, List.all_nil, List.append_nil, Bool.true_and, Bool.and_true, rowsA_sla, rowsA_sl, rowsA_nil, minus_zero, nat_le_cast, nat_nonneg, Option.isSome_some, Option.isSome_none, Bool.false_eq_true, false_and, and_false, if_true, if_false, implies_true, Int.toNat_zero, Bool.not_false, Bool.not_true, bne_self_eq_false]; done) | (simp only [decide_true, decide_false, eq_self, and_true, true_and, and_self, cond_true, cond_false, Nat.le_refl, Int.le_refl, Option.getD_some, Option.getD_none, Int.toNat_natCast, List.take_length, List.drop_zero, Nat.zero_add, List.nil_append, List.all_nil, List.append_nil, Bool.true_and, Bool.and_true, rowsA_sla, rowsA_sl, rowsA_nil, minus_zero, nat_le_cast, nat_nonneg, Option.isSome_some, Option.isSome_none, Bool.false_eq_true, false_and, and_false, if_true, if_false, implies_true, Int.toNat_zero, Bool.not_false, Bool.not_true, bne_self_eq_false]; rfl))
theorem t15 (n : Nat) (x y : List (List DV)) : FK tab noSp lN 20 (n+8) 15 [.sla false 1 x, .sla false 1 y] =
   (bif (↑x.length : Int) != (↑y.length : Int) then some (DV.bool false)
 else
 need
 (LoopOk (LB tab noSp lN (20 : Nat) (n + (8 : Nat)) h150 c15l0)
 (St.of [(0, AV.d (DV.sla false 1 x)), (1, AV.d (DV.sla false 1 y)), (5, AV.d (DV.int .i64 0))]
 [])
 (Ex.ex (0 : Nat), St.of [] []))
 (some (DV.bool true))) :=
  (show FK tab noSp lN 20 (n+8) 15 [.sla false 1 x, .sla false 1 y] =
 (cond ((↑x.length : Int) != (↑y.length : Int))
 (some (.bool false))
 (need (LoopOk (LB tab noSp lN ((20 : Nat)) (n + (8 : Nat)) h150 c15l0) (St.of [(0, (.d (.sla false 1 x))), (1, (.d (.sla false 1 y))), (5, (.d (.int .i64 ((0 : Int)))))] []) ((.ex 0), (St.of [] [])))
 (some (.bool true)))) from by kernel_rfl).trans (by first | rfl | (simp only [decide_true, decide_false, eq_self, and_true, true_and, and_self, cond_true, cond_false, Nat.le_refl, Int.le_refl, Option.getD_some, Option.getD_none, Int.toNat_natCast, List.take_length, List.drop_zero, Nat.zero_add, List.nil_append, List.all_nil, List.append_nil, Bool.true_and, Bool.and_true, rowsA_sla, rowsA_sl, rowsA_nil, minus_zero, nat_le_cast, nat_nonneg, Option.isSome_some, Option.isSome_none, Bool.false_eq_true, false_and, and_false, if_true, if_false, implies_true, Int.toNat_zero, Bool.not_false, Bool.not_true, bne_self_eq_false]; done) | (simp only [decide_true, decide_false, eq_self, and_true, true_and, and_self, cond_true, cond_false, Nat.le_refl, Int.le_refl, Option.getD_some, Option.getD_none, Int.toNat_natCast, List.take_length, List.drop_zero, Nat.zero_add, List.nil_append, List.all_nil, List.append_nil, Bool.true_and, Bool.and_true, rowsA_sla, rowsA_sl, rowsA_nil, minus_zero, nat_le_cast, nat_nonneg, Option.isSome_some, Option.isSome_none, Bool.false_eq_true, false_and, and_false, if_true, if_false, implies_true, Int.toNat_zero, Bool.not_false, Bool.not_true, bne_self_eq_false]; rfl))
end Go.Proofs.Ythjcfiekdejdgaa
