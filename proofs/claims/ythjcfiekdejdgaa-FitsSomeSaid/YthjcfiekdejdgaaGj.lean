/- What the reference's sums come to. No condition. -/
import Derived.Test.YthjcfiekdejdgaaGi
namespace Go.Proofs.Ythjcfiekdejdgaa
open Go Go.Proofs Go.RowKit Vm
set_option linter.unusedVariables false
set_option linter.unusedSimpArgs false
def dF (i k : Int) (e : List DV) : Int := if pF e = i ∧ pT e = k then pA e else 0
def dP (i : Int) (e : List DV) : Int := if pF e = i ∧ pC e = 3 then pA e else 0
def dR (i : Int) (e : List DV) : Int := if pF e = i ∧ pC e ≠ 3 then pA e else 0
def S440 (l : List (List DV)) (i k s j : Int) : St := St.of [(0, .d (.sla false 7 l)), (1, .d (.int .i64 i)), (2, .d (.int .i64 k)), (7, .d (.int .i64 s)), (8, .d (.int .i64 j))] []
def S420 (l : List (List DV)) (i s t j : Int) : St := St.of [(0, .d (.sla false 7 l)), (1, .d (.int .i64 i)), (6, .d (.int .i64 s)), (7, .d (.int .i64 t)), (8, .d (.int .i64 j))] []
def l440 : LSpec := fun st => match st.env 0, st.env 1, st.env 2 with
  | .d (.sla _ _ l), .d (.int _ i), .d (.int _ k) => .one (.ex 0) (St.of [(7, .d (.int .i64 (sumL (dF i k) l)))] [])
  | _, _, _ => .no
def l420 : LSpec := fun st => match st.env 0, st.env 1 with
  | .d (.sla _ _ l), .d (.int _ i) => .one (.ex 0) (St.of [(6, .d (.int .i64 (sumL (dP i) l))), (7, .d (.int .i64 (sumL (dR i) l)))] [])
  | _, _ => .no
def lJ (k : Nat) : Option LSpec := if k = 440 then some l440 else if k = 420 then some l420 else none
theorem s440 (L n : Nat) (l : List (List DV)) (i k s : Int) (j : Nat) (K : Kont) : LB tab noSp lJ L (n+4) h440 c44l0 (S440 l i k s j) K =
   (bif decide ((↑j : Int) < (↑l.length : Int)) then
 lookK l[j]? fun (e1 : List DV) =>
 bif
 okRow
 [DV.int .i64 0, DV.int .i64 0, DV.int .i64 0, DV.int .i64 0, DV.int .i64 0, DV.int .i64 0, DV.int .i64 0]
 e1 then
 bif (cellA e1 1).toI == i then
 lookK l[j]? fun (e5 : List DV) =>
 bif
 okRow
 [DV.int .i64 0, DV.int .i64 0, DV.int .i64 0, DV.int .i64 0, DV.int .i64 0, DV.int .i64 0, DV.int .i64 0]
 e5 then
 bif (cellA e5 2).toI == k then
 lookK l[j]? fun (e9 : List DV) =>
 bif
 okRow
 [DV.int .i64 0, DV.int .i64 0, DV.int .i64 0, DV.int .i64 0, DV.int .i64 0, DV.int .i64 0, DV.int .i64 0]
 e9 then
 K Ex.nrm
 (St.of
 [(0, AV.d (DV.sla false 7 l)), (1, AV.d (DV.int .i64 i)), (2, AV.d (DV.int .i64 k)),
 ((7 : Nat), AV.d (DV.int .i64 (IntKind.i64.wrap (s + (cellA e9 3).toI)))),
 ((8 : Nat), AV.d (DV.int .i64 (IntKind.i64.wrap ((↑j : Int) + (1 : Int)))))]
 [])
 else none
 else
 K Ex.nrm
 (St.of
 [(0, AV.d (DV.sla false 7 l)), (1, AV.d (DV.int .i64 i)), (2, AV.d (DV.int .i64 k)),
 ((7 : Nat), AV.d (DV.int .i64 s)), (8, AV.d (DV.int .i64 (IntKind.i64.wrap ((↑j : Int) + (1 : Int)))))]
 [])
 else none
 else
 K Ex.nrm
 (St.of
 [(0, AV.d (DV.sla false 7 l)), (1, AV.d (DV.int .i64 i)), (2, AV.d (DV.int .i64 k)),
 ((7 : Nat), AV.d (DV.int .i64 s)), (8, AV.d (DV.int .i64 (IntKind.i64.wrap ((↑j : Int) + (1 : Int)))))]
 [])
 else none
 else K (Ex.ex (0 : Nat)) (St.of [(7, AV.d (DV.int .i64 s))] [])) :=
  (show LB tab noSp lJ L (n+4) h440 c44l0 (S440 l i k s j) K =
 (cond (decide ((↑j : Int) < (↑l.length : Int)))
 (lookK (l[(↑j : Int).toNat]?)
 fun e1 =>
 (cond (okRow [DV.int .i64 0, DV.int .i64 0, DV.int .i64 0, DV.int .i64 0, DV.int .i64 0, DV.int .i64 0, DV.int .i64 0] e1)
 (cond ((cellA e1 1).toI == i)
 (lookK (l[(↑j : Int).toNat]?)
 fun e5 =>
 (cond (okRow [DV.int .i64 0, DV.int .i64 0, DV.int .i64 0, DV.int .i64 0, DV.int .i64 0, DV.int .i64 0, DV.int .i64 0] e5)
 (cond ((cellA e5 2).toI == k)
 (lookK (l[(↑j : Int).toNat]?)
 fun e9 =>
 (cond (okRow [DV.int .i64 0, DV.int .i64 0, DV.int .i64 0, DV.int .i64 0, DV.int .i64 0, DV.int .i64 0, DV.int .i64 0] e9)
 (K .nrm (St.of [(0, (.d (.sla false 7 l))), (1, (.d (.int .i64 i))), (2, (.d (.int .i64 k))), (7, (.d (.int .i64 (IntKind.i64.wrap (s + (cellA e9 3).toI))))), (8, (.d (.int .i64 (IntKind.i64.wrap ((↑j : Int) + (1 : Int))))))] []))
 none))
 (K .nrm (St.of [(0, (.d (.sla false 7 l))), (1, (.d (.int .i64 i))), (2, (.d (.int .i64 k))), (7, (.d (.int .i64 s))), (8, (.d (.int .i64 (IntKind.i64.wrap ((↑j : Int) + (1 : Int))))))] [])))
 none))
 (K .nrm (St.of [(0, (.d (.sla false 7 l))), (1, (.d (.int .i64 i))), (2, (.d (.int .i64 k))), (7, (.d (.int .i64 s))), (8, (.d (.int .i64 (IntKind.i64.wrap ((↑j : Int) + (1 : Int))))))] [])))
 none))
 (K (.ex 0) (St.of [(7, (.d (.int .i64 s)))] []))) from by kernel_rfl).trans (by first | rfl | (simp only [decide_true, decide_false, eq_self, and_true, true_and, and_self, cond_true, cond_false, Nat.le_refl, Int.le_refl, Option.getD_some, Option.getD_none, Int.toNat_natCast, List.take_length, List.drop_zero, Nat.zero_add, List.nil_append, List.all_nil, List.append_nil, Bool.true_and, Bool.and_true, rowsA_sla, rowsA_sl, rowsA_nil, minus_zero, nat_le_cast, nat_nonneg, Option.isSome_some, Option.isSome_none, Bool.false_eq_true, false_and, and_false, if_true, if_false, implies_true, Int.toNat_zero, Bool.not_false, Bool.not_true, bne_self_eq_false]; done) | (simp only [decide_true, decide_false, eq_self, and_true, true_and, and_self, cond_true, cond_false, Nat.le_refl, Int.le_refl, Option.getD_some, Option.getD_none, Int.toNat_natCast, List.take_length, List.drop_zero, Nat.zero_add, List.nil_append, List.all_nil, List.append_nil, Bool.true_and, Bool.and_true, rowsA_sla, rowsA_sl, rowsA_nil, minus_zero, nat_le_cast, nat_nonneg, Option.isSome_some, Option.isSome_none, Bool.false_eq_true, false_and, and_false, if_true, if_false, implies_true, Int.toNat_zero, Bool.not_false, Bool.not_true, bne_self_eq_false]; rfl))
theorem s420 (L n : Nat) (l : List (List DV)) (i s t : Int) (j : Nat) (K : Kont) : LB tab noSp lJ L (n+4) h420 c42l0 (S420 l i s t j) K =
   (bif decide ((↑j : Int) < (↑l.length : Int)) then
 lookK l[j]? fun (e1 : List DV) =>
 bif
 okRow
 [DV.int .i64 0, DV.int .i64 0, DV.int .i64 0, DV.int .i64 0, DV.int .i64 0, DV.int .i64 0, DV.int .i64 0]
 e1 then
 bif (cellA e1 1).toI != i then
 K Ex.nrm
 (St.of
 [(0, AV.d (DV.sla false 7 l)), (1, AV.d (DV.int .i64 i)), (6, AV.d (DV.int .i64 s)),
 ((7 : Nat), AV.d (DV.int .i64 t)), (8, AV.d (DV.int .i64 (IntKind.i64.wrap ((↑j : Int) + (1 : Int)))))]
 [])
 else
 lookK l[j]? fun (e5 : List DV) =>
 bif
 okRow
 [DV.int .i64 0, DV.int .i64 0, DV.int .i64 0, DV.int .i64 0, DV.int .i64 0, DV.int .i64 0, DV.int .i64 0]
 e5 then
 bif (cellA e5 4).toI == (3 : Int) then
 lookK l[j]? fun (e9 : List DV) =>
 bif
 okRow
 [DV.int .i64 0, DV.int .i64 0, DV.int .i64 0, DV.int .i64 0, DV.int .i64 0, DV.int .i64 0, DV.int .i64 0]
 e9 then
 K Ex.nrm
 (St.of
 [(0, AV.d (DV.sla false 7 l)), (1, AV.d (DV.int .i64 i)),
 ((6 : Nat), AV.d (DV.int .i64 (IntKind.i64.wrap (s + (cellA e9 3).toI)))), (7, AV.d (DV.int .i64 t)),
 ((8 : Nat), AV.d (DV.int .i64 (IntKind.i64.wrap ((↑j : Int) + (1 : Int)))))]
 [])
 else none
 else
 lookK l[j]? fun (e9 : List DV) =>
 bif
 okRow
 [DV.int .i64 0, DV.int .i64 0, DV.int .i64 0, DV.int .i64 0, DV.int .i64 0, DV.int .i64 0, DV.int .i64 0]
 e9 then
 K Ex.nrm
 (St.of
 [(0, AV.d (DV.sla false 7 l)), (1, AV.d (DV.int .i64 i)), (6, AV.d (DV.int .i64 s)),
 ((7 : Nat), AV.d (DV.int .i64 (IntKind.i64.wrap (t + (cellA e9 3).toI)))),
 ((8 : Nat), AV.d (DV.int .i64 (IntKind.i64.wrap ((↑j : Int) + (1 : Int)))))]
 [])
 else none
 else none
 else none
 else K (Ex.ex (0 : Nat)) (St.of [(6, AV.d (DV.int .i64 s)), (7, AV.d (DV.int .i64 t))] [])) :=
  (show LB tab noSp lJ L (n+4) h420 c42l0 (S420 l i s t j) K =
 (cond (decide ((↑j : Int) < (↑l.length : Int)))
 (lookK (l[(↑j : Int).toNat]?)
 fun e1 =>
 (cond (okRow [DV.int .i64 0, DV.int .i64 0, DV.int .i64 0, DV.int .i64 0, DV.int .i64 0, DV.int .i64 0, DV.int .i64 0] e1)
 (cond ((cellA e1 1).toI != i)
 (K .nrm (St.of [(0, (.d (.sla false 7 l))), (1, (.d (.int .i64 i))), (6, (.d (.int .i64 s))), (7, (.d (.int .i64 t))), (8, (.d (.int .i64 (IntKind.i64.wrap ((↑j : Int) + (1 : Int))))))] []))
 (lookK (l[(↑j : Int).toNat]?)
 fun e5 =>
 (cond (okRow [DV.int .i64 0, DV.int .i64 0, DV.int .i64 0, DV.int .i64 0, DV.int .i64 0, DV.int .i64 0, DV.int .i64 0] e5)
 (cond ((cellA e5 4).toI == (3 : Int))
 (lookK (l[(↑j : Int).toNat]?)
 fun e9 =>
 (cond (okRow [DV.int .i64 0, DV.int .i64 0, DV.int .i64 0, DV.int .i64 0, DV.int .i64 0, DV.int .i64 0, DV.int .i64 0] e9)
 (K .nrm (St.of [(0, (.d (.sla false 7 l))), (1, (.d (.int .i64 i))), (6, (.d (.int .i64 (IntKind.i64.wrap (s + (cellA e9 3).toI))))), (7, (.d (.int .i64 t))), (8, (.d (.int .i64 (IntKind.i64.wrap ((↑j : Int) + (1 : Int))))))] []))
 none))
 (lookK (l[(↑j : Int).toNat]?)
 fun e9 =>
 (cond (okRow [DV.int .i64 0, DV.int .i64 0, DV.int .i64 0, DV.int .i64 0, DV.int .i64 0, DV.int .i64 0, DV.int .i64 0] e9)
 (K .nrm (St.of [(0, (.d (.sla false 7 l))), (1, (.d (.int .i64 i))), (6, (.d (.int .i64 s))), (7, (.d (.int .i64 (IntKind.i64.wrap (t + (cellA e9 3).toI))))), (8, (.d (.int .i64 (IntKind.i64.wrap ((↑j : Int) + (1 : Int))))))] []))
 none)))
 none)))
 none))
 (K (.ex 0) (St.of [(6, (.d (.int .i64 s))), (7, (.d (.int .i64 t)))] []))) from by kernel_rfl).trans (by first | rfl | (simp only [decide_true, decide_false, eq_self, and_true, true_and, and_self, cond_true, cond_false, Nat.le_refl, Int.le_refl, Option.getD_some, Option.getD_none, Int.toNat_natCast, List.take_length, List.drop_zero, Nat.zero_add, List.nil_append, List.all_nil, List.append_nil, Bool.true_and, Bool.and_true, rowsA_sla, rowsA_sl, rowsA_nil, minus_zero, nat_le_cast, nat_nonneg, Option.isSome_some, Option.isSome_none, Bool.false_eq_true, false_and, and_false, if_true, if_false, implies_true, Int.toNat_zero, Bool.not_false, Bool.not_true, bne_self_eq_false]; done) | (simp only [decide_true, decide_false, eq_self, and_true, true_and, and_self, cond_true, cond_false, Nat.le_refl, Int.le_refl, Option.getD_some, Option.getD_none, Int.toNat_natCast, List.take_length, List.drop_zero, Nat.zero_add, List.nil_append, List.all_nil, List.append_nil, Bool.true_and, Bool.and_true, rowsA_sla, rowsA_sl, rowsA_nil, minus_zero, nat_le_cast, nat_nonneg, Option.isSome_some, Option.isSome_none, Bool.false_eq_true, false_and, and_false, if_true, if_false, implies_true, Int.toNat_zero, Bool.not_false, Bool.not_true, bne_self_eq_false]; rfl))
theorem t44 (n : Nat) (l : List (List DV)) (i k : Int) : FK tab noSp lJ 20 (n+8) 44 [.sla false 7 l, .int .i64 i, .int .i64 k] =
   (need
 (LoopOk (LB tab noSp lJ (20 : Nat) (n + (8 : Nat)) h440 c44l0)
 (St.of
 [(0, AV.d (DV.sla false 7 l)), (1, AV.d (DV.int .i64 i)), (2, AV.d (DV.int .i64 k)),
 ((7 : Nat), AV.d (DV.int .i64 0)), (8, AV.d (DV.int .i64 0))]
 [])
 (Ex.ex (0 : Nat), St.of [(7, AV.d (DV.int .i64 (sumL (dF i k) l)))] []))
 (some (DV.int .i64 (sumL (dF i k) l)))) :=
  (show FK tab noSp lJ 20 (n+8) 44 [.sla false 7 l, .int .i64 i, .int .i64 k] =
 (need (LoopOk (LB tab noSp lJ ((20 : Nat)) (n + (8 : Nat)) h440 c44l0) (St.of [(0, (.d (.sla false 7 l))), (1, (.d (.int .i64 i))), (2, (.d (.int .i64 k))), (7, (.d (.int .i64 ((0 : Int))))), (8, (.d (.int .i64 ((0 : Int)))))] []) ((.ex 0), (St.of [(7, (.d (.int .i64 (sumL (dF i k) l))))] [])))
 (some (.int .i64 (sumL (dF i k) l)))) from by kernel_rfl).trans (by first | rfl | (simp only [decide_true, decide_false, eq_self, and_true, true_and, and_self, cond_true, cond_false, Nat.le_refl, Int.le_refl, Option.getD_some, Option.getD_none, Int.toNat_natCast, List.take_length, List.drop_zero, Nat.zero_add, List.nil_append, List.all_nil, List.append_nil, Bool.true_and, Bool.and_true, rowsA_sla, rowsA_sl, rowsA_nil, minus_zero, nat_le_cast, nat_nonneg, Option.isSome_some, Option.isSome_none, Bool.false_eq_true, false_and, and_false, if_true, if_false, implies_true, Int.toNat_zero, Bool.not_false, Bool.not_true, bne_self_eq_false]; done) | (simp only [decide_true, decide_false, eq_self, and_true, true_and, and_self, cond_true, cond_false, Nat.le_refl, Int.le_refl, Option.getD_some, Option.getD_none, Int.toNat_natCast, List.take_length, List.drop_zero, Nat.zero_add, List.nil_append, List.all_nil, List.append_nil, Bool.true_and, Bool.and_true, rowsA_sla, rowsA_sl, rowsA_nil, minus_zero, nat_le_cast, nat_nonneg, Option.isSome_some, Option.isSome_none, Bool.false_eq_true, false_and, and_false, if_true, if_false, implies_true, Int.toNat_zero, Bool.not_false, Bool.not_true, bne_self_eq_false]; rfl))
theorem t42 (n : Nat) (l : List (List DV)) (i : Int) : FK tab noSp lJ 20 (n+8) 42 [.sla false 7 l, .int .i64 i] =
   (need
 (LoopOk (LB tab noSp lJ (20 : Nat) (n + (8 : Nat)) h420 c42l0)
 (St.of
 [(0, AV.d (DV.sla false 7 l)), (1, AV.d (DV.int .i64 i)), (6, AV.d (DV.int .i64 0)),
 ((7 : Nat), AV.d (DV.int .i64 0)), (8, AV.d (DV.int .i64 0))]
 [])
 (Ex.ex (0 : Nat), St.of [(6, AV.d (DV.int .i64 (sumL (dP i) l))), (7, AV.d (DV.int .i64 (sumL (dR i) l)))] []))
 (some (DV.tuple [DV.int .i64 (sumL (dP i) l), DV.int .i64 (sumL (dR i) l)]))) :=
  (show FK tab noSp lJ 20 (n+8) 42 [.sla false 7 l, .int .i64 i] =
 (need (LoopOk (LB tab noSp lJ ((20 : Nat)) (n + (8 : Nat)) h420 c42l0) (St.of [(0, (.d (.sla false 7 l))), (1, (.d (.int .i64 i))), (6, (.d (.int .i64 ((0 : Int))))), (7, (.d (.int .i64 ((0 : Int))))), (8, (.d (.int .i64 ((0 : Int)))))] []) ((.ex 0), (St.of [(6, (.d (.int .i64 (sumL (dP i) l)))), (7, (.d (.int .i64 (sumL (dR i) l))))] [])))
 (some (.tuple [(.int .i64 (sumL (dP i) l)), (.int .i64 (sumL (dR i) l))]))) from by kernel_rfl).trans (by first | rfl | (simp only [decide_true, decide_false, eq_self, and_true, true_and, and_self, cond_true, cond_false, Nat.le_refl, Int.le_refl, Option.getD_some, Option.getD_none, Int.toNat_natCast, List.take_length, List.drop_zero, Nat.zero_add, List.nil_append, List.all_nil, List.append_nil, Bool.true_and, Bool.and_true, rowsA_sla, rowsA_sl, rowsA_nil, minus_zero, nat_le_cast, nat_nonneg, Option.isSome_some, Option.isSome_none, Bool.false_eq_true, false_and, and_false, if_true, if_false, implies_true, Int.toNat_zero, Bool.not_false, Bool.not_true, bne_self_eq_false]; done) | (simp only [decide_true, decide_false, eq_self, and_true, true_and, and_self, cond_true, cond_false, Nat.le_refl, Int.le_refl, Option.getD_some, Option.getD_none, Int.toNat_natCast, List.take_length, List.drop_zero, Nat.zero_add, List.nil_append, List.all_nil, List.append_nil, Bool.true_and, Bool.and_true, rowsA_sla, rowsA_sl, rowsA_nil, minus_zero, nat_le_cast, nat_nonneg, Option.isSome_some, Option.isSome_none, Bool.false_eq_true, false_and, and_false, if_true, if_false, implies_true, Int.toNat_zero, Bool.not_false, Bool.not_true, bne_self_eq_false]; rfl))
end Go.Proofs.Ythjcfiekdejdgaa
