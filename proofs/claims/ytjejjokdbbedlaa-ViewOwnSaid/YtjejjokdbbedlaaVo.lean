/- The document's May: what its loops do. No condition. -/
import Derived.Test.YtjejjokdbbedlaaVl
namespace Go.Proofs.Ytjejjokdbbedlaa
open Go Go.Proofs Go.RowKit Vm
set_option linter.unusedVariables false
set_option linter.unusedSimpArgs false
def nrB (e : List DV) : Bool := (cellA e 4).toI == 3
def eqP (x y : List DV) : Bool := (cellA x 0).toI == (cellA y 0).toI && ((cellA x 1).toI == (cellA y 1).toI && ((cellA x 2).toI == (cellA y 2).toI && ((cellA x 3).toI == (cellA y 3).toI && ((cellA x 4).toI == (cellA y 4).toI && ((cellA x 5).toI == (cellA y 5).toI && (cellA x 6).toI == (cellA y 6).toI)))))
def ofR (r : List (List DV)) (i : Nat) : List (List DV) := r.filter (clB 31 (frm (r[i]?.getD [])))
def decR (r : List (List DV)) (i : Nat) : Bool := bif eqP ((ofR r i)[0]?.getD []) (r[i]?.getD []) then true else (ofR r i).all nrB
def T190 (r : List (List DV)) (v : AV) (i : Int) (o1 o2 : Option Ob) : St := St.of [(5, .d (.sla false 7 r)), (6, v), (7, .d (.int .i64 i))] [(13, none), (59, o1), (50059, o2)]
def U190 (v : AV) (o1 o2 : Option Ob) : St := St.of [(6, v)] [(59, o1), (50059, o2)]
def T191 (r m : List (List DV)) (v : AV) (i : Int) (b : Bool) (j : Int) (o1 o2 : Option Ob) : St := St.of [(5, .d (.sla false 7 r)), (6, v), (7, .d (.int .i64 i)), (8, .d (.sla false 7 m)), (9, .d (.bool b)), (10, .d (.int .i64 j))] [(13, none), (26, none), (59, o1), (50059, o2)]
def U191 (r m : List (List DV)) (v : AV) (i : Int) (b : Bool) (o1 o2 : Option Ob) : St := St.of [(5, .d (.sla false 7 r)), (6, v), (7, .d (.int .i64 i)), (8, .d (.sla false 7 m)), (9, .d (.bool b))] [(13, none), (26, none), (59, o1), (50059, o2)]
def m190 : LSpec := fun st => match st.env 5 with
  | .d (.sla _ _ r) => collR U190 59 50059 27 7 (outN r.length (decR r) (rowP r))
  | _ => .no
def m191 : LSpec := fun st => match st.env 5, st.env 7, st.env 8 with
  | .d (.sla _ _ r), .d (.int _ i), .d (.sla _ _ m) => .one (.ex 2) (U191 r m (st.env 6) i (m.all nrB) (st.seg 59) (st.seg 50059))
  | _, _, _ => .no
def lM (k : Nat) : Option LSpec := if k = 190 then some m190 else if k = 191 then some m191 else none
noncomputable def spM : FuncId → Option FSpec := spAdd 10 (fltS 29) (spAdd 9 (fltS 31) noSp)
theorem s191A (L n : Nat) (r m : List (List DV)) (i : Int) (b : Bool) (j : Nat) (k : Kont) : LB tab spM lM L (n+4) h191 c19l1 (T191 r m (.d .nilsl) i b j none none) k =
   (bif decide ((↑j : Int) < (↑m.length : Int)) then
 bif b then
 lookK m[j]? fun (e2 : List DV) =>
 bif
 okRow
 [DV.int .i64 0, DV.int .i64 0, DV.int .i64 0, DV.int .i64 0, DV.int .i64 0, DV.int .i64 0, DV.int .i64 0]
 e2 then
 k Ex.nrm
 (St.of
 [(5, AV.d (DV.sla false 7 r)), (6, AV.d DV.nilsl), (7, AV.d (DV.int .i64 i)),
 ((8 : Nat), AV.d (DV.sla false 7 m)), (9, AV.d (DV.bool ((cellA e2 4).toI == (3 : Int)))),
 ((10 : Nat), AV.d (DV.int .i64 (IntKind.i64.wrap ((↑j : Int) + (1 : Int)))))]
 [(13, none), (26, none), (59, none), (50059, none)])
 else none
 else
 k Ex.nrm
 (St.of
 [(5, AV.d (DV.sla false 7 r)), (6, AV.d DV.nilsl), (7, AV.d (DV.int .i64 i)),
 ((8 : Nat), AV.d (DV.sla false 7 m)), (9, AV.d (DV.bool false)),
 ((10 : Nat), AV.d (DV.int .i64 (IntKind.i64.wrap ((↑j : Int) + (1 : Int)))))]
 [(13, none), (26, none), (59, none), (50059, none)])
 else
 k (Ex.ex (2 : Nat))
 (St.of
 [(5, AV.d (DV.sla false 7 r)), (6, AV.d DV.nilsl), (7, AV.d (DV.int .i64 i)),
 ((8 : Nat), AV.d (DV.sla false 7 m)), (9, AV.d (DV.bool b))]
 [(13, none), (26, none), (59, none), (50059, none)])) :=
  (show LB tab spM lM L (n+4) h191 c19l1 (T191 r m (.d .nilsl) i b j none none) k =
 (cond (decide ((↑j : Int) < (↑m.length : Int)))
 (cond (b)
 (lookK (m[(↑j : Int).toNat]?)
 fun e2 =>
 (cond (okRow [DV.int .i64 0, DV.int .i64 0, DV.int .i64 0, DV.int .i64 0, DV.int .i64 0, DV.int .i64 0, DV.int .i64 0] e2)
 (k .nrm (St.of [(5, (.d (.sla false 7 r))), (6, (.d .nilsl)), (7, (.d (.int .i64 i))), (8, (.d (.sla false 7 m))), (9, (.d (.bool ((cellA e2 4).toI == (3 : Int))))), (10, (.d (.int .i64 (IntKind.i64.wrap ((↑j : Int) + (1 : Int))))))] [(13, .none), (26, .none), (59, .none), (50059, .none)]))
 none))
 (k .nrm (St.of [(5, (.d (.sla false 7 r))), (6, (.d .nilsl)), (7, (.d (.int .i64 i))), (8, (.d (.sla false 7 m))), (9, (.d (.bool false))), (10, (.d (.int .i64 (IntKind.i64.wrap ((↑j : Int) + (1 : Int))))))] [(13, .none), (26, .none), (59, .none), (50059, .none)])))
 (k (.ex 2) (St.of [(5, (.d (.sla false 7 r))), (6, (.d .nilsl)), (7, (.d (.int .i64 i))), (8, (.d (.sla false 7 m))), (9, (.d (.bool b)))] [(13, .none), (26, .none), (59, .none), (50059, .none)]))) from by kernel_rfl).trans (by first | rfl | (simp only [decide_true, decide_false, eq_self, and_true, true_and, and_self, cond_true, cond_false, Nat.le_refl, Int.le_refl, Option.getD_some, Option.getD_none, Int.toNat_natCast, List.take_length, List.drop_zero, Nat.zero_add, List.nil_append, List.all_nil, List.append_nil, Bool.true_and, Bool.and_true, rowsA_sla, rowsA_sl, rowsA_nil, minus_zero, nat_le_cast, nat_nonneg, Option.isSome_some, Option.isSome_none, Bool.false_eq_true, false_and, and_false, if_true, if_false, implies_true, Int.toNat_zero, Bool.not_false, Bool.not_true, bne_self_eq_false]; done) | (simp only [decide_true, decide_false, eq_self, and_true, true_and, and_self, cond_true, cond_false, Nat.le_refl, Int.le_refl, Option.getD_some, Option.getD_none, Int.toNat_natCast, List.take_length, List.drop_zero, Nat.zero_add, List.nil_append, List.all_nil, List.append_nil, Bool.true_and, Bool.and_true, rowsA_sla, rowsA_sl, rowsA_nil, minus_zero, nat_le_cast, nat_nonneg, Option.isSome_some, Option.isSome_none, Bool.false_eq_true, false_and, and_false, if_true, if_false, implies_true, Int.toNat_zero, Bool.not_false, Bool.not_true, bne_self_eq_false]; rfl))
theorem s191B (L n : Nat) (r m O : List (List DV)) (i : Int) (b : Bool) (j : Nat) (k : Kont) : LB tab spM lM L (n+4) h191 c19l1 (T191 r m (.aref 59 7 0 O.length) i b j (some (.dat 27 7 O)) none) k =
   (bif decide ((↑j : Int) < (↑m.length : Int)) then
 bif b then
 lookK m[j]? fun (e2 : List DV) =>
 bif
 okRow
 [DV.int .i64 0, DV.int .i64 0, DV.int .i64 0, DV.int .i64 0, DV.int .i64 0, DV.int .i64 0, DV.int .i64 0]
 e2 then
 k Ex.nrm
 (St.of
 [(5, AV.d (DV.sla false 7 r)), (6, AV.aref 59 7 0 O.length),
 ((7 : Nat), AV.d (DV.int .i64 i)), (8, AV.d (DV.sla false 7 m)),
 ((9 : Nat), AV.d (DV.bool ((cellA e2 4).toI == (3 : Int)))),
 ((10 : Nat), AV.d (DV.int .i64 (IntKind.i64.wrap ((↑j : Int) + (1 : Int)))))]
 [(13, none), (26, none), (59, some (Ob.dat 27 7 O)), (50059, none)])
 else none
 else
 k Ex.nrm
 (St.of
 [(5, AV.d (DV.sla false 7 r)), (6, AV.aref 59 7 0 O.length),
 ((7 : Nat), AV.d (DV.int .i64 i)), (8, AV.d (DV.sla false 7 m)), (9, AV.d (DV.bool false)),
 ((10 : Nat), AV.d (DV.int .i64 (IntKind.i64.wrap ((↑j : Int) + (1 : Int)))))]
 [(13, none), (26, none), (59, some (Ob.dat 27 7 O)), (50059, none)])
 else
 k (Ex.ex (2 : Nat))
 (St.of
 [(5, AV.d (DV.sla false 7 r)), (6, AV.aref 59 7 0 O.length), (7, AV.d (DV.int .i64 i)),
 ((8 : Nat), AV.d (DV.sla false 7 m)), (9, AV.d (DV.bool b))]
 [(13, none), (26, none), (59, some (Ob.dat 27 7 O)), (50059, none)])) :=
  (show LB tab spM lM L (n+4) h191 c19l1 (T191 r m (.aref 59 7 0 O.length) i b j (some (.dat 27 7 O)) none) k =
 (cond (decide ((↑j : Int) < (↑m.length : Int)))
 (cond (b)
 (lookK (m[(↑j : Int).toNat]?)
 fun e2 =>
 (cond (okRow [DV.int .i64 0, DV.int .i64 0, DV.int .i64 0, DV.int .i64 0, DV.int .i64 0, DV.int .i64 0, DV.int .i64 0] e2)
 (k .nrm (St.of [(5, (.d (.sla false 7 r))), (6, (.aref 59 7 0 (O.length))), (7, (.d (.int .i64 i))), (8, (.d (.sla false 7 m))), (9, (.d (.bool ((cellA e2 4).toI == (3 : Int))))), (10, (.d (.int .i64 (IntKind.i64.wrap ((↑j : Int) + (1 : Int))))))] [(13, .none), (26, .none), (59, (.some (.dat 27 7 O))), (50059, .none)]))
 none))
 (k .nrm (St.of [(5, (.d (.sla false 7 r))), (6, (.aref 59 7 0 (O.length))), (7, (.d (.int .i64 i))), (8, (.d (.sla false 7 m))), (9, (.d (.bool false))), (10, (.d (.int .i64 (IntKind.i64.wrap ((↑j : Int) + (1 : Int))))))] [(13, .none), (26, .none), (59, (.some (.dat 27 7 O))), (50059, .none)])))
 (k (.ex 2) (St.of [(5, (.d (.sla false 7 r))), (6, (.aref 59 7 0 (O.length))), (7, (.d (.int .i64 i))), (8, (.d (.sla false 7 m))), (9, (.d (.bool b)))] [(13, .none), (26, .none), (59, (.some (.dat 27 7 O))), (50059, .none)]))) from by kernel_rfl).trans (by first | rfl | (simp only [decide_true, decide_false, eq_self, and_true, true_and, and_self, cond_true, cond_false, Nat.le_refl, Int.le_refl, Option.getD_some, Option.getD_none, Int.toNat_natCast, List.take_length, List.drop_zero, Nat.zero_add, List.nil_append, List.all_nil, List.append_nil, Bool.true_and, Bool.and_true, rowsA_sla, rowsA_sl, rowsA_nil, minus_zero, nat_le_cast, nat_nonneg, Option.isSome_some, Option.isSome_none, Bool.false_eq_true, false_and, and_false, if_true, if_false, implies_true, Int.toNat_zero, Bool.not_false, Bool.not_true, bne_self_eq_false]; done) | (simp only [decide_true, decide_false, eq_self, and_true, true_and, and_self, cond_true, cond_false, Nat.le_refl, Int.le_refl, Option.getD_some, Option.getD_none, Int.toNat_natCast, List.take_length, List.drop_zero, Nat.zero_add, List.nil_append, List.all_nil, List.append_nil, Bool.true_and, Bool.and_true, rowsA_sla, rowsA_sl, rowsA_nil, minus_zero, nat_le_cast, nat_nonneg, Option.isSome_some, Option.isSome_none, Bool.false_eq_true, false_and, and_false, if_true, if_false, implies_true, Int.toNat_zero, Bool.not_false, Bool.not_true, bne_self_eq_false]; rfl))
theorem s191C (L n : Nat) (r m O : List (List DV)) (i : Int) (b : Bool) (j : Nat) (k : Kont) : LB tab spM lM L (n+4) h191 c19l1 (T191 r m (.aref 50059 7 0 O.length) i b j none (some (.dat 27 7 O))) k =
   (bif decide ((↑j : Int) < (↑m.length : Int)) then
 bif b then
 lookK m[j]? fun (e2 : List DV) =>
 bif
 okRow
 [DV.int .i64 0, DV.int .i64 0, DV.int .i64 0, DV.int .i64 0, DV.int .i64 0, DV.int .i64 0, DV.int .i64 0]
 e2 then
 k Ex.nrm
 (St.of
 [(5, AV.d (DV.sla false 7 r)), (6, AV.aref 50059 7 0 O.length),
 ((7 : Nat), AV.d (DV.int .i64 i)), (8, AV.d (DV.sla false 7 m)),
 ((9 : Nat), AV.d (DV.bool ((cellA e2 4).toI == (3 : Int)))),
 ((10 : Nat), AV.d (DV.int .i64 (IntKind.i64.wrap ((↑j : Int) + (1 : Int)))))]
 [(13, none), (26, none), (59, none), (50059, some (Ob.dat 27 7 O))])
 else none
 else
 k Ex.nrm
 (St.of
 [(5, AV.d (DV.sla false 7 r)), (6, AV.aref 50059 7 0 O.length),
 ((7 : Nat), AV.d (DV.int .i64 i)), (8, AV.d (DV.sla false 7 m)), (9, AV.d (DV.bool false)),
 ((10 : Nat), AV.d (DV.int .i64 (IntKind.i64.wrap ((↑j : Int) + (1 : Int)))))]
 [(13, none), (26, none), (59, none), (50059, some (Ob.dat 27 7 O))])
 else
 k (Ex.ex (2 : Nat))
 (St.of
 [(5, AV.d (DV.sla false 7 r)), (6, AV.aref 50059 7 0 O.length),
 ((7 : Nat), AV.d (DV.int .i64 i)), (8, AV.d (DV.sla false 7 m)), (9, AV.d (DV.bool b))]
 [(13, none), (26, none), (59, none), (50059, some (Ob.dat 27 7 O))])) :=
  (show LB tab spM lM L (n+4) h191 c19l1 (T191 r m (.aref 50059 7 0 O.length) i b j none (some (.dat 27 7 O))) k =
 (cond (decide ((↑j : Int) < (↑m.length : Int)))
 (cond (b)
 (lookK (m[(↑j : Int).toNat]?)
 fun e2 =>
 (cond (okRow [DV.int .i64 0, DV.int .i64 0, DV.int .i64 0, DV.int .i64 0, DV.int .i64 0, DV.int .i64 0, DV.int .i64 0] e2)
 (k .nrm (St.of [(5, (.d (.sla false 7 r))), (6, (.aref 50059 7 0 (O.length))), (7, (.d (.int .i64 i))), (8, (.d (.sla false 7 m))), (9, (.d (.bool ((cellA e2 4).toI == (3 : Int))))), (10, (.d (.int .i64 (IntKind.i64.wrap ((↑j : Int) + (1 : Int))))))] [(13, .none), (26, .none), (59, .none), (50059, (.some (.dat 27 7 O)))]))
 none))
 (k .nrm (St.of [(5, (.d (.sla false 7 r))), (6, (.aref 50059 7 0 (O.length))), (7, (.d (.int .i64 i))), (8, (.d (.sla false 7 m))), (9, (.d (.bool false))), (10, (.d (.int .i64 (IntKind.i64.wrap ((↑j : Int) + (1 : Int))))))] [(13, .none), (26, .none), (59, .none), (50059, (.some (.dat 27 7 O)))])))
 (k (.ex 2) (St.of [(5, (.d (.sla false 7 r))), (6, (.aref 50059 7 0 (O.length))), (7, (.d (.int .i64 i))), (8, (.d (.sla false 7 m))), (9, (.d (.bool b)))] [(13, .none), (26, .none), (59, .none), (50059, (.some (.dat 27 7 O)))]))) from by kernel_rfl).trans (by first | rfl | (simp only [decide_true, decide_false, eq_self, and_true, true_and, and_self, cond_true, cond_false, Nat.le_refl, Int.le_refl, Option.getD_some, Option.getD_none, Int.toNat_natCast, List.take_length, List.drop_zero, Nat.zero_add, List.nil_append, List.all_nil, List.append_nil, Bool.true_and, Bool.and_true, rowsA_sla, rowsA_sl, rowsA_nil, minus_zero, nat_le_cast, nat_nonneg, Option.isSome_some, Option.isSome_none, Bool.false_eq_true, false_and, and_false, if_true, if_false, implies_true, Int.toNat_zero, Bool.not_false, Bool.not_true, bne_self_eq_false]; done) | (simp only [decide_true, decide_false, eq_self, and_true, true_and, and_self, cond_true, cond_false, Nat.le_refl, Int.le_refl, Option.getD_some, Option.getD_none, Int.toNat_natCast, List.take_length, List.drop_zero, Nat.zero_add, List.nil_append, List.all_nil, List.append_nil, Bool.true_and, Bool.and_true, rowsA_sla, rowsA_sl, rowsA_nil, minus_zero, nat_le_cast, nat_nonneg, Option.isSome_some, Option.isSome_none, Bool.false_eq_true, false_and, and_false, if_true, if_false, implies_true, Int.toNat_zero, Bool.not_false, Bool.not_true, bne_self_eq_false]; rfl))
theorem s190A (L n : Nat) (r : List (List DV)) (i : Nat) (k : Kont) : LB tab spM lM L (n+4) h190 c19l0 (T190 r (.d .nilsl) i none none) k =
   (bif decide ((↑i : Int) < (↑r.length : Int)) then
 lookK r[i]? fun (e1 : List DV) =>
 bif
 okRow
 [DV.int .i64 0, DV.int .i64 0, DV.int .i64 0, DV.int .i64 0, DV.int .i64 0, DV.int .i64 0, DV.int .i64 0]
 e1 then
 need ((fltS (31 : FuncId)).D [DV.sla false 7 r, DV.int .i64 (cellA e1 1).toI])
 (need
 (LoopOk (LB tab spM lM L (n + (4 : Nat)) h191 c19l1)
 (St.of
 [(5, AV.d (DV.sla false 7 r)), (6, AV.d DV.nilsl), (7, AV.d (DV.int .i64 (↑i : Int))),
 ((8 : Nat), AV.d (DV.sla false 7 (List.filter (clB (31 : FuncId) (cellA e1 1).toI) r))), (9, AV.d (DV.bool true)),
 ((10 : Nat), AV.d (DV.int .i64 0))]
 [(13, none), (26, none), (59, none), (50059, none)])
 (Ex.ex (2 : Nat),
 St.of
 [(5, AV.d (DV.sla false 7 r)), (6, AV.d DV.nilsl), (7, AV.d (DV.int .i64 (↑i : Int))),
 ((8 : Nat), AV.d (DV.sla false 7 (List.filter (clB (31 : FuncId) (cellA e1 1).toI) r))),
 ((9 : Nat), AV.d (DV.bool ((List.filter (clB (31 : FuncId) (cellA e1 1).toI) r).all nrB)))]
 [(13, none), (26, none), (59, none), (50059, none)]))
 (lookK (List.filter (clB (31 : FuncId) (cellA e1 1).toI) r)[(0 : Nat)]? fun (e6 : List DV) =>
 bif
 okRow
 [DV.int .i64 0, DV.int .i64 0, DV.int .i64 0, DV.int .i64 0, DV.int .i64 0, DV.int .i64 0, DV.int .i64 0]
 e6 then
 lookK r[i]? fun (e9 : List DV) =>
 bif
 okRow
 [DV.int .i64 0, DV.int .i64 0, DV.int .i64 0, DV.int .i64 0, DV.int .i64 0, DV.int .i64 0, DV.int .i64 0]
 e9 then
 bif
 bif
 (cellA e6 0).toI == (cellA e9 0).toI &&
 ((cellA e6 1).toI == (cellA e9 1).toI &&
 ((cellA e6 2).toI == (cellA e9 2).toI &&
 ((cellA e6 3).toI == (cellA e9 3).toI &&
 ((cellA e6 4).toI == (cellA e9 4).toI &&
 ((cellA e6 5).toI == (cellA e9 5).toI && (cellA e6 6).toI == (cellA e9 6).toI))))) then
 true
 else (List.filter (clB (31 : FuncId) (cellA e1 1).toI) r).all nrB then
 lookK r[i]? fun (e13 : List DV) =>
 bif
 okRow
 [DV.int .i64 0, DV.int .i64 0, DV.int .i64 0, DV.int .i64 0, DV.int .i64 0, DV.int .i64 0, DV.int .i64 0]
 e13 then
 k Ex.nrm
 (St.of
 [(5, AV.d (DV.sla false 7 r)), (6, AV.aref 59 7 0 (1 : Nat)),
 ((7 : Nat), AV.d (DV.int .i64 (IntKind.i64.wrap ((↑i : Int) + (1 : Int)))))]
 [(13, none),
 ((59 : Nat),
 some
 (Ob.dat 27 7
 [[DV.int .i64 (cellA e13 0).toI, DV.int .i64 (cellA e13 1).toI, DV.int .i64 (cellA e13 2).toI, DV.int .i64 (cellA e13 3).toI, DV.int .i64 (cellA e13 4).toI, DV.int .i64 (cellA e13 5).toI, DV.int .i64 (cellA e13 6).toI]])),
 ((50059 : Nat), none)])
 else none
 else
 k Ex.nrm
 (St.of
 [(5, AV.d (DV.sla false 7 r)), (6, AV.d DV.nilsl),
 ((7 : Nat), AV.d (DV.int .i64 (IntKind.i64.wrap ((↑i : Int) + (1 : Int)))))]
 [(13, none), (59, none), (50059, none)])
 else none
 else none))
 else none
 else k (Ex.ex (0 : Nat)) (St.of [(6, AV.d DV.nilsl)] [(59, none), (50059, none)])) :=
  (show LB tab spM lM L (n+4) h190 c19l0 (T190 r (.d .nilsl) i none none) k =
 (cond (decide ((↑i : Int) < (↑r.length : Int)))
 (lookK (r[(↑i : Int).toNat]?)
 fun e1 =>
 (cond (okRow [DV.int .i64 0, DV.int .i64 0, DV.int .i64 0, DV.int .i64 0, DV.int .i64 0, DV.int .i64 0, DV.int .i64 0] e1)
 (need (FSpec.D (fltS (31 : FuncId)) [(.sla false 7 r), (.int .i64 ((cellA e1 1).toI))])
 (need (LoopOk (LB tab spM lM L (n + (4 : Nat)) h191 c19l1) (St.of [(5, (.d (.sla false 7 r))), (6, (.d .nilsl)), (7, (.d (.int .i64 ((↑i : Int))))), (8, (.d (.sla false 7 (List.filter (clB (31 : FuncId) (cellA e1 1).toI) (rowsA (DV.sla false 7 r)))))), (9, (.d (.bool true))), (10, (.d (.int .i64 ((0 : Int)))))] [(13, .none), (26, .none), (59, .none), (50059, .none)]) ((.ex 2), (St.of [(5, (.d (.sla false 7 r))), (6, (.d .nilsl)), (7, (.d (.int .i64 ((↑i : Int))))), (8, (.d (.sla false 7 (List.filter (clB (31 : FuncId) (cellA e1 1).toI) (rowsA (DV.sla false 7 r)))))), (9, (.d (.bool ((List.filter (clB (31 : FuncId) (cellA e1 1).toI) (rowsA (DV.sla false 7 r))).all nrB))))] [(13, .none), (26, .none), (59, .none), (50059, .none)])))
 (lookK ((List.filter (clB (31 : FuncId) (cellA e1 1).toI) (rowsA (DV.sla false 7 r)))[(0 : Nat)]?)
 fun e6 =>
 (cond (okRow [DV.int .i64 0, DV.int .i64 0, DV.int .i64 0, DV.int .i64 0, DV.int .i64 0, DV.int .i64 0, DV.int .i64 0] e6)
 (lookK (r[(↑i : Int).toNat]?)
 fun e9 =>
 (cond (okRow [DV.int .i64 0, DV.int .i64 0, DV.int .i64 0, DV.int .i64 0, DV.int .i64 0, DV.int .i64 0, DV.int .i64 0] e9)
 (cond (bif (cellA e6 0).toI == (cellA e9 0).toI && ((cellA e6 1).toI == (cellA e9 1).toI && ((cellA e6 2).toI == (cellA e9 2).toI && ((cellA e6 3).toI == (cellA e9 3).toI && ((cellA e6 4).toI == (cellA e9 4).toI && ((cellA e6 5).toI == (cellA e9 5).toI && ((cellA e6 6).toI == (cellA e9 6).toI && true)))))) then true else (List.filter (clB (31 : FuncId) (cellA e1 1).toI) (rowsA (DV.sla false 7 r))).all nrB)
 (lookK (r[(↑i : Int).toNat]?)
 fun e13 =>
 (cond (okRow [DV.int .i64 0, DV.int .i64 0, DV.int .i64 0, DV.int .i64 0, DV.int .i64 0, DV.int .i64 0, DV.int .i64 0] e13)
 (k .nrm (St.of [(5, (.d (.sla false 7 r))), (6, (.aref 59 7 0 1)), (7, (.d (.int .i64 (IntKind.i64.wrap ((↑i : Int) + (1 : Int))))))] [(13, .none), (59, (.some (.dat 27 7 [[(.int .i64 ((cellA e13 0).toI)), (.int .i64 ((cellA e13 1).toI)), (.int .i64 ((cellA e13 2).toI)), (.int .i64 ((cellA e13 3).toI)), (.int .i64 ((cellA e13 4).toI)), (.int .i64 ((cellA e13 5).toI)), (.int .i64 ((cellA e13 6).toI))]]))), (50059, .none)]))
 none))
 (k .nrm (St.of [(5, (.d (.sla false 7 r))), (6, (.d .nilsl)), (7, (.d (.int .i64 (IntKind.i64.wrap ((↑i : Int) + (1 : Int))))))] [(13, .none), (59, .none), (50059, .none)])))
 none))
 none))))
 none))
 (k (.ex 0) (St.of [(6, (.d .nilsl))] [(59, .none), (50059, .none)]))) from by kernel_rfl).trans (by first | rfl | (simp only [decide_true, decide_false, eq_self, and_true, true_and, and_self, cond_true, cond_false, Nat.le_refl, Int.le_refl, Option.getD_some, Option.getD_none, Int.toNat_natCast, List.take_length, List.drop_zero, Nat.zero_add, List.nil_append, List.all_nil, List.append_nil, Bool.true_and, Bool.and_true, rowsA_sla, rowsA_sl, rowsA_nil, minus_zero, nat_le_cast, nat_nonneg, Option.isSome_some, Option.isSome_none, Bool.false_eq_true, false_and, and_false, if_true, if_false, implies_true, Int.toNat_zero, Bool.not_false, Bool.not_true, bne_self_eq_false]; done) | (simp only [decide_true, decide_false, eq_self, and_true, true_and, and_self, cond_true, cond_false, Nat.le_refl, Int.le_refl, Option.getD_some, Option.getD_none, Int.toNat_natCast, List.take_length, List.drop_zero, Nat.zero_add, List.nil_append, List.all_nil, List.append_nil, Bool.true_and, Bool.and_true, rowsA_sla, rowsA_sl, rowsA_nil, minus_zero, nat_le_cast, nat_nonneg, Option.isSome_some, Option.isSome_none, Bool.false_eq_true, false_and, and_false, if_true, if_false, implies_true, Int.toNat_zero, Bool.not_false, Bool.not_true, bne_self_eq_false]; rfl))
theorem s190B (L n : Nat) (r O : List (List DV)) (i : Nat) (k : Kont) : LB tab spM lM L (n+4) h190 c19l0 (T190 r (.aref 59 7 0 O.length) i (some (.dat 27 7 O)) none) k =
   (bif decide ((↑i : Int) < (↑r.length : Int)) then
 lookK r[i]? fun (e1 : List DV) =>
 bif
 okRow
 [DV.int .i64 0, DV.int .i64 0, DV.int .i64 0, DV.int .i64 0, DV.int .i64 0, DV.int .i64 0, DV.int .i64 0]
 e1 then
 need ((fltS (31 : FuncId)).D [DV.sla false 7 r, DV.int .i64 (cellA e1 1).toI])
 (need
 (LoopOk (LB tab spM lM L (n + (4 : Nat)) h191 c19l1)
 (St.of
 [(5, AV.d (DV.sla false 7 r)), (6, AV.aref 59 7 0 O.length),
 ((7 : Nat), AV.d (DV.int .i64 (↑i : Int))),
 ((8 : Nat), AV.d (DV.sla false 7 (List.filter (clB (31 : FuncId) (cellA e1 1).toI) r))), (9, AV.d (DV.bool true)),
 ((10 : Nat), AV.d (DV.int .i64 0))]
 [(13, none), (26, none), (59, some (Ob.dat 27 7 O)), (50059, none)])
 (Ex.ex (2 : Nat),
 St.of
 [(5, AV.d (DV.sla false 7 r)), (6, AV.aref 59 7 0 O.length),
 ((7 : Nat), AV.d (DV.int .i64 (↑i : Int))),
 ((8 : Nat), AV.d (DV.sla false 7 (List.filter (clB (31 : FuncId) (cellA e1 1).toI) r))),
 ((9 : Nat), AV.d (DV.bool ((List.filter (clB (31 : FuncId) (cellA e1 1).toI) r).all nrB)))]
 [(13, none), (26, none), (59, some (Ob.dat 27 7 O)), (50059, none)]))
 (lookK (List.filter (clB (31 : FuncId) (cellA e1 1).toI) r)[(0 : Nat)]? fun (e6 : List DV) =>
 bif
 okRow
 [DV.int .i64 0, DV.int .i64 0, DV.int .i64 0, DV.int .i64 0, DV.int .i64 0, DV.int .i64 0, DV.int .i64 0]
 e6 then
 lookK r[i]? fun (e9 : List DV) =>
 bif
 okRow
 [DV.int .i64 0, DV.int .i64 0, DV.int .i64 0, DV.int .i64 0, DV.int .i64 0, DV.int .i64 0, DV.int .i64 0]
 e9 then
 bif
 bif
 (cellA e6 0).toI == (cellA e9 0).toI &&
 ((cellA e6 1).toI == (cellA e9 1).toI &&
 ((cellA e6 2).toI == (cellA e9 2).toI &&
 ((cellA e6 3).toI == (cellA e9 3).toI &&
 ((cellA e6 4).toI == (cellA e9 4).toI &&
 ((cellA e6 5).toI == (cellA e9 5).toI && (cellA e6 6).toI == (cellA e9 6).toI))))) then
 true
 else (List.filter (clB (31 : FuncId) (cellA e1 1).toI) r).all nrB then
 lookK r[i]? fun (e13 : List DV) =>
 bif
 okRow
 [DV.int .i64 0, DV.int .i64 0, DV.int .i64 0, DV.int .i64 0, DV.int .i64 0, DV.int .i64 0, DV.int .i64 0]
 e13 then
 bif
 decide
 ((O ++
 [[DV.int .i64 (cellA e13 0).toI, DV.int .i64 (cellA e13 1).toI, DV.int .i64 (cellA e13 2).toI, DV.int .i64 (cellA e13 3).toI, DV.int .i64 (cellA e13 4).toI, DV.int .i64 (cellA e13 5).toI, DV.int .i64 (cellA e13 6).toI]]).length *
 (56 : Nat) ≤
 room ∧
 (O ++
 [[DV.int .i64 (cellA e13 0).toI, DV.int .i64 (cellA e13 1).toI, DV.int .i64 (cellA e13 2).toI, DV.int .i64 (cellA e13 3).toI, DV.int .i64 (cellA e13 4).toI, DV.int .i64 (cellA e13 5).toI, DV.int .i64 (cellA e13 6).toI]]).length ≤
 room) then
 k Ex.nrm
 (St.of
 [(5, AV.d (DV.sla false 7 r)),
 ((6 : Nat),
 AV.aref (alt (59 : Nat) (59 : Nat)) (7 : Nat) (0 : Nat)
 (O ++
 [[DV.int .i64 (cellA e13 0).toI, DV.int .i64 (cellA e13 1).toI, DV.int .i64 (cellA e13 2).toI, DV.int .i64 (cellA e13 3).toI, DV.int .i64 (cellA e13 4).toI, DV.int .i64 (cellA e13 5).toI, DV.int .i64 (cellA e13 6).toI]]).length),
 ((7 : Nat), AV.d (DV.int .i64 (IntKind.i64.wrap ((↑i : Int) + (1 : Int)))))]
 [(13, none), (59, none),
 ((50059 : Nat),
 some
 (Ob.dat 27 7
 (O ++
 [[DV.int .i64 (cellA e13 0).toI, DV.int .i64 (cellA e13 1).toI, DV.int .i64 (cellA e13 2).toI, DV.int .i64 (cellA e13 3).toI, DV.int .i64 (cellA e13 4).toI, DV.int .i64 (cellA e13 5).toI, DV.int .i64 (cellA e13 6).toI]])))])
 else none
 else none
 else
 k Ex.nrm
 (St.of
 [(5, AV.d (DV.sla false 7 r)), (6, AV.aref 59 7 0 O.length),
 ((7 : Nat), AV.d (DV.int .i64 (IntKind.i64.wrap ((↑i : Int) + (1 : Int)))))]
 [(13, none), (59, some (Ob.dat 27 7 O)), (50059, none)])
 else none
 else none))
 else none
 else
 k (Ex.ex (0 : Nat))
 (St.of [(6, AV.aref 59 7 0 O.length)] [(59, some (Ob.dat 27 7 O)), (50059, none)])) :=
  (show LB tab spM lM L (n+4) h190 c19l0 (T190 r (.aref 59 7 0 O.length) i (some (.dat 27 7 O)) none) k =
 (cond (decide ((↑i : Int) < (↑r.length : Int)))
 (lookK (r[(↑i : Int).toNat]?)
 fun e1 =>
 (cond (okRow [DV.int .i64 0, DV.int .i64 0, DV.int .i64 0, DV.int .i64 0, DV.int .i64 0, DV.int .i64 0, DV.int .i64 0] e1)
 (need (FSpec.D (fltS (31 : FuncId)) [(.sla false 7 r), (.int .i64 ((cellA e1 1).toI))])
 (need (LoopOk (LB tab spM lM L (n + (4 : Nat)) h191 c19l1) (St.of [(5, (.d (.sla false 7 r))), (6, (.aref 59 7 0 (O.length))), (7, (.d (.int .i64 ((↑i : Int))))), (8, (.d (.sla false 7 (List.filter (clB (31 : FuncId) (cellA e1 1).toI) (rowsA (DV.sla false 7 r)))))), (9, (.d (.bool true))), (10, (.d (.int .i64 ((0 : Int)))))] [(13, .none), (26, .none), (59, (.some (.dat 27 7 O))), (50059, .none)]) ((.ex 2), (St.of [(5, (.d (.sla false 7 r))), (6, (.aref 59 7 0 (O.length))), (7, (.d (.int .i64 ((↑i : Int))))), (8, (.d (.sla false 7 (List.filter (clB (31 : FuncId) (cellA e1 1).toI) (rowsA (DV.sla false 7 r)))))), (9, (.d (.bool ((List.filter (clB (31 : FuncId) (cellA e1 1).toI) (rowsA (DV.sla false 7 r))).all nrB))))] [(13, .none), (26, .none), (59, (.some (.dat 27 7 O))), (50059, .none)])))
 (lookK ((List.filter (clB (31 : FuncId) (cellA e1 1).toI) (rowsA (DV.sla false 7 r)))[(0 : Nat)]?)
 fun e6 =>
 (cond (okRow [DV.int .i64 0, DV.int .i64 0, DV.int .i64 0, DV.int .i64 0, DV.int .i64 0, DV.int .i64 0, DV.int .i64 0] e6)
 (lookK (r[(↑i : Int).toNat]?)
 fun e9 =>
 (cond (okRow [DV.int .i64 0, DV.int .i64 0, DV.int .i64 0, DV.int .i64 0, DV.int .i64 0, DV.int .i64 0, DV.int .i64 0] e9)
 (cond (bif (cellA e6 0).toI == (cellA e9 0).toI && ((cellA e6 1).toI == (cellA e9 1).toI && ((cellA e6 2).toI == (cellA e9 2).toI && ((cellA e6 3).toI == (cellA e9 3).toI && ((cellA e6 4).toI == (cellA e9 4).toI && ((cellA e6 5).toI == (cellA e9 5).toI && ((cellA e6 6).toI == (cellA e9 6).toI && true)))))) then true else (List.filter (clB (31 : FuncId) (cellA e1 1).toI) (rowsA (DV.sla false 7 r))).all nrB)
 (lookK (r[(↑i : Int).toNat]?)
 fun e13 =>
 (cond (okRow [DV.int .i64 0, DV.int .i64 0, DV.int .i64 0, DV.int .i64 0, DV.int .i64 0, DV.int .i64 0, DV.int .i64 0] e13)
 (cond (decide ((27 : TypeId) = (27 : Nat) ∧ (7 : Nat) = (7 : Nat) ∧ (7 : Nat) = (7 : Nat) ∧ (0 : Nat) = (0 : Nat) ∧ O.length = O.length ∧ (O ++ [[DV.int .i64 (cellA e13 0).toI, DV.int .i64 (cellA e13 1).toI, DV.int .i64 (cellA e13 2).toI, DV.int .i64 (cellA e13 3).toI, DV.int .i64 (cellA e13 4).toI, DV.int .i64 (cellA e13 5).toI, DV.int .i64 (cellA e13 6).toI]]).length * (56 : Nat) ≤ room ∧ (O ++ [[DV.int .i64 (cellA e13 0).toI, DV.int .i64 (cellA e13 1).toI, DV.int .i64 (cellA e13 2).toI, DV.int .i64 (cellA e13 3).toI, DV.int .i64 (cellA e13 4).toI, DV.int .i64 (cellA e13 5).toI, DV.int .i64 (cellA e13 6).toI]]).length ≤ room))
 (k .nrm (St.of [(5, (.d (.sla false 7 r))), (6, (.aref (alt 59 59) 7 0 ((O ++ [[DV.int .i64 (cellA e13 0).toI, DV.int .i64 (cellA e13 1).toI, DV.int .i64 (cellA e13 2).toI, DV.int .i64 (cellA e13 3).toI, DV.int .i64 (cellA e13 4).toI, DV.int .i64 (cellA e13 5).toI, DV.int .i64 (cellA e13 6).toI]]).length))), (7, (.d (.int .i64 (IntKind.i64.wrap ((↑i : Int) + (1 : Int))))))] [(13, .none), (59, .none), (50059, (.some (.dat 27 7 (O ++ [[DV.int .i64 (cellA e13 0).toI, DV.int .i64 (cellA e13 1).toI, DV.int .i64 (cellA e13 2).toI, DV.int .i64 (cellA e13 3).toI, DV.int .i64 (cellA e13 4).toI, DV.int .i64 (cellA e13 5).toI, DV.int .i64 (cellA e13 6).toI]]))))]))
 none)
 none))
 (k .nrm (St.of [(5, (.d (.sla false 7 r))), (6, (.aref 59 7 0 (O.length))), (7, (.d (.int .i64 (IntKind.i64.wrap ((↑i : Int) + (1 : Int))))))] [(13, .none), (59, (.some (.dat 27 7 O))), (50059, .none)])))
 none))
 none))))
 none))
 (k (.ex 0) (St.of [(6, (.aref 59 7 0 (O.length)))] [(59, (.some (.dat 27 7 O))), (50059, .none)]))) from by kernel_rfl).trans (by first | rfl | (simp only [decide_true, decide_false, eq_self, and_true, true_and, and_self, cond_true, cond_false, Nat.le_refl, Int.le_refl, Option.getD_some, Option.getD_none, Int.toNat_natCast, List.take_length, List.drop_zero, Nat.zero_add, List.nil_append, List.all_nil, List.append_nil, Bool.true_and, Bool.and_true, rowsA_sla, rowsA_sl, rowsA_nil, minus_zero, nat_le_cast, nat_nonneg, Option.isSome_some, Option.isSome_none, Bool.false_eq_true, false_and, and_false, if_true, if_false, implies_true, Int.toNat_zero, Bool.not_false, Bool.not_true, bne_self_eq_false]; done) | (simp only [decide_true, decide_false, eq_self, and_true, true_and, and_self, cond_true, cond_false, Nat.le_refl, Int.le_refl, Option.getD_some, Option.getD_none, Int.toNat_natCast, List.take_length, List.drop_zero, Nat.zero_add, List.nil_append, List.all_nil, List.append_nil, Bool.true_and, Bool.and_true, rowsA_sla, rowsA_sl, rowsA_nil, minus_zero, nat_le_cast, nat_nonneg, Option.isSome_some, Option.isSome_none, Bool.false_eq_true, false_and, and_false, if_true, if_false, implies_true, Int.toNat_zero, Bool.not_false, Bool.not_true, bne_self_eq_false]; rfl))
theorem s190C (L n : Nat) (r O : List (List DV)) (i : Nat) (k : Kont) : LB tab spM lM L (n+4) h190 c19l0 (T190 r (.aref 50059 7 0 O.length) i none (some (.dat 27 7 O))) k =
   (bif decide ((↑i : Int) < (↑r.length : Int)) then
 lookK r[i]? fun (e1 : List DV) =>
 bif
 okRow
 [DV.int .i64 0, DV.int .i64 0, DV.int .i64 0, DV.int .i64 0, DV.int .i64 0, DV.int .i64 0, DV.int .i64 0]
 e1 then
 need ((fltS (31 : FuncId)).D [DV.sla false 7 r, DV.int .i64 (cellA e1 1).toI])
 (need
 (LoopOk (LB tab spM lM L (n + (4 : Nat)) h191 c19l1)
 (St.of
 [(5, AV.d (DV.sla false 7 r)), (6, AV.aref 50059 7 0 O.length),
 ((7 : Nat), AV.d (DV.int .i64 (↑i : Int))),
 ((8 : Nat), AV.d (DV.sla false 7 (List.filter (clB (31 : FuncId) (cellA e1 1).toI) r))), (9, AV.d (DV.bool true)),
 ((10 : Nat), AV.d (DV.int .i64 0))]
 [(13, none), (26, none), (59, none), (50059, some (Ob.dat 27 7 O))])
 (Ex.ex (2 : Nat),
 St.of
 [(5, AV.d (DV.sla false 7 r)), (6, AV.aref 50059 7 0 O.length),
 ((7 : Nat), AV.d (DV.int .i64 (↑i : Int))),
 ((8 : Nat), AV.d (DV.sla false 7 (List.filter (clB (31 : FuncId) (cellA e1 1).toI) r))),
 ((9 : Nat), AV.d (DV.bool ((List.filter (clB (31 : FuncId) (cellA e1 1).toI) r).all nrB)))]
 [(13, none), (26, none), (59, none), (50059, some (Ob.dat 27 7 O))]))
 (lookK (List.filter (clB (31 : FuncId) (cellA e1 1).toI) r)[(0 : Nat)]? fun (e6 : List DV) =>
 bif
 okRow
 [DV.int .i64 0, DV.int .i64 0, DV.int .i64 0, DV.int .i64 0, DV.int .i64 0, DV.int .i64 0, DV.int .i64 0]
 e6 then
 lookK r[i]? fun (e9 : List DV) =>
 bif
 okRow
 [DV.int .i64 0, DV.int .i64 0, DV.int .i64 0, DV.int .i64 0, DV.int .i64 0, DV.int .i64 0, DV.int .i64 0]
 e9 then
 bif
 bif
 (cellA e6 0).toI == (cellA e9 0).toI &&
 ((cellA e6 1).toI == (cellA e9 1).toI &&
 ((cellA e6 2).toI == (cellA e9 2).toI &&
 ((cellA e6 3).toI == (cellA e9 3).toI &&
 ((cellA e6 4).toI == (cellA e9 4).toI &&
 ((cellA e6 5).toI == (cellA e9 5).toI && (cellA e6 6).toI == (cellA e9 6).toI))))) then
 true
 else (List.filter (clB (31 : FuncId) (cellA e1 1).toI) r).all nrB then
 lookK r[i]? fun (e13 : List DV) =>
 bif
 okRow
 [DV.int .i64 0, DV.int .i64 0, DV.int .i64 0, DV.int .i64 0, DV.int .i64 0, DV.int .i64 0, DV.int .i64 0]
 e13 then
 bif
 decide
 ((O ++
 [[DV.int .i64 (cellA e13 0).toI, DV.int .i64 (cellA e13 1).toI, DV.int .i64 (cellA e13 2).toI, DV.int .i64 (cellA e13 3).toI, DV.int .i64 (cellA e13 4).toI, DV.int .i64 (cellA e13 5).toI, DV.int .i64 (cellA e13 6).toI]]).length *
 (56 : Nat) ≤
 room ∧
 (O ++
 [[DV.int .i64 (cellA e13 0).toI, DV.int .i64 (cellA e13 1).toI, DV.int .i64 (cellA e13 2).toI, DV.int .i64 (cellA e13 3).toI, DV.int .i64 (cellA e13 4).toI, DV.int .i64 (cellA e13 5).toI, DV.int .i64 (cellA e13 6).toI]]).length ≤
 room) then
 k Ex.nrm
 (St.of
 [(5, AV.d (DV.sla false 7 r)),
 ((6 : Nat),
 AV.aref (alt (50059 : Nat) (59 : Nat)) (7 : Nat) (0 : Nat)
 (O ++
 [[DV.int .i64 (cellA e13 0).toI, DV.int .i64 (cellA e13 1).toI, DV.int .i64 (cellA e13 2).toI, DV.int .i64 (cellA e13 3).toI, DV.int .i64 (cellA e13 4).toI, DV.int .i64 (cellA e13 5).toI, DV.int .i64 (cellA e13 6).toI]]).length),
 ((7 : Nat), AV.d (DV.int .i64 (IntKind.i64.wrap ((↑i : Int) + (1 : Int)))))]
 [(13, none),
 ((59 : Nat),
 some
 (Ob.dat 27 7
 (O ++
 [[DV.int .i64 (cellA e13 0).toI, DV.int .i64 (cellA e13 1).toI, DV.int .i64 (cellA e13 2).toI, DV.int .i64 (cellA e13 3).toI, DV.int .i64 (cellA e13 4).toI, DV.int .i64 (cellA e13 5).toI, DV.int .i64 (cellA e13 6).toI]]))),
 ((50059 : Nat), none)])
 else none
 else none
 else
 k Ex.nrm
 (St.of
 [(5, AV.d (DV.sla false 7 r)), (6, AV.aref 50059 7 0 O.length),
 ((7 : Nat), AV.d (DV.int .i64 (IntKind.i64.wrap ((↑i : Int) + (1 : Int)))))]
 [(13, none), (59, none), (50059, some (Ob.dat 27 7 O))])
 else none
 else none))
 else none
 else
 k (Ex.ex (0 : Nat))
 (St.of [(6, AV.aref 50059 7 0 O.length)] [(59, none), (50059, some (Ob.dat 27 7 O))])) :=
  (show LB tab spM lM L (n+4) h190 c19l0 (T190 r (.aref 50059 7 0 O.length) i none (some (.dat 27 7 O))) k =
 (cond (decide ((↑i : Int) < (↑r.length : Int)))
 (lookK (r[(↑i : Int).toNat]?)
 fun e1 =>
 (cond (okRow [DV.int .i64 0, DV.int .i64 0, DV.int .i64 0, DV.int .i64 0, DV.int .i64 0, DV.int .i64 0, DV.int .i64 0] e1)
 (need (FSpec.D (fltS (31 : FuncId)) [(.sla false 7 r), (.int .i64 ((cellA e1 1).toI))])
 (need (LoopOk (LB tab spM lM L (n + (4 : Nat)) h191 c19l1) (St.of [(5, (.d (.sla false 7 r))), (6, (.aref 50059 7 0 (O.length))), (7, (.d (.int .i64 ((↑i : Int))))), (8, (.d (.sla false 7 (List.filter (clB (31 : FuncId) (cellA e1 1).toI) (rowsA (DV.sla false 7 r)))))), (9, (.d (.bool true))), (10, (.d (.int .i64 ((0 : Int)))))] [(13, .none), (26, .none), (59, .none), (50059, (.some (.dat 27 7 O)))]) ((.ex 2), (St.of [(5, (.d (.sla false 7 r))), (6, (.aref 50059 7 0 (O.length))), (7, (.d (.int .i64 ((↑i : Int))))), (8, (.d (.sla false 7 (List.filter (clB (31 : FuncId) (cellA e1 1).toI) (rowsA (DV.sla false 7 r)))))), (9, (.d (.bool ((List.filter (clB (31 : FuncId) (cellA e1 1).toI) (rowsA (DV.sla false 7 r))).all nrB))))] [(13, .none), (26, .none), (59, .none), (50059, (.some (.dat 27 7 O)))])))
 (lookK ((List.filter (clB (31 : FuncId) (cellA e1 1).toI) (rowsA (DV.sla false 7 r)))[(0 : Nat)]?)
 fun e6 =>
 (cond (okRow [DV.int .i64 0, DV.int .i64 0, DV.int .i64 0, DV.int .i64 0, DV.int .i64 0, DV.int .i64 0, DV.int .i64 0] e6)
 (lookK (r[(↑i : Int).toNat]?)
 fun e9 =>
 (cond (okRow [DV.int .i64 0, DV.int .i64 0, DV.int .i64 0, DV.int .i64 0, DV.int .i64 0, DV.int .i64 0, DV.int .i64 0] e9)
 (cond (bif (cellA e6 0).toI == (cellA e9 0).toI && ((cellA e6 1).toI == (cellA e9 1).toI && ((cellA e6 2).toI == (cellA e9 2).toI && ((cellA e6 3).toI == (cellA e9 3).toI && ((cellA e6 4).toI == (cellA e9 4).toI && ((cellA e6 5).toI == (cellA e9 5).toI && ((cellA e6 6).toI == (cellA e9 6).toI && true)))))) then true else (List.filter (clB (31 : FuncId) (cellA e1 1).toI) (rowsA (DV.sla false 7 r))).all nrB)
 (lookK (r[(↑i : Int).toNat]?)
 fun e13 =>
 (cond (okRow [DV.int .i64 0, DV.int .i64 0, DV.int .i64 0, DV.int .i64 0, DV.int .i64 0, DV.int .i64 0, DV.int .i64 0] e13)
 (cond (decide ((27 : TypeId) = (27 : Nat) ∧ (7 : Nat) = (7 : Nat) ∧ (7 : Nat) = (7 : Nat) ∧ (0 : Nat) = (0 : Nat) ∧ O.length = O.length ∧ (O ++ [[DV.int .i64 (cellA e13 0).toI, DV.int .i64 (cellA e13 1).toI, DV.int .i64 (cellA e13 2).toI, DV.int .i64 (cellA e13 3).toI, DV.int .i64 (cellA e13 4).toI, DV.int .i64 (cellA e13 5).toI, DV.int .i64 (cellA e13 6).toI]]).length * (56 : Nat) ≤ room ∧ (O ++ [[DV.int .i64 (cellA e13 0).toI, DV.int .i64 (cellA e13 1).toI, DV.int .i64 (cellA e13 2).toI, DV.int .i64 (cellA e13 3).toI, DV.int .i64 (cellA e13 4).toI, DV.int .i64 (cellA e13 5).toI, DV.int .i64 (cellA e13 6).toI]]).length ≤ room))
 (k .nrm (St.of [(5, (.d (.sla false 7 r))), (6, (.aref (alt 50059 59) 7 0 ((O ++ [[DV.int .i64 (cellA e13 0).toI, DV.int .i64 (cellA e13 1).toI, DV.int .i64 (cellA e13 2).toI, DV.int .i64 (cellA e13 3).toI, DV.int .i64 (cellA e13 4).toI, DV.int .i64 (cellA e13 5).toI, DV.int .i64 (cellA e13 6).toI]]).length))), (7, (.d (.int .i64 (IntKind.i64.wrap ((↑i : Int) + (1 : Int))))))] [(13, .none), (59, (.some (.dat 27 7 (O ++ [[DV.int .i64 (cellA e13 0).toI, DV.int .i64 (cellA e13 1).toI, DV.int .i64 (cellA e13 2).toI, DV.int .i64 (cellA e13 3).toI, DV.int .i64 (cellA e13 4).toI, DV.int .i64 (cellA e13 5).toI, DV.int .i64 (cellA e13 6).toI]])))), (50059, .none)]))
 none)
 none))
 (k .nrm (St.of [(5, (.d (.sla false 7 r))), (6, (.aref 50059 7 0 (O.length))), (7, (.d (.int .i64 (IntKind.i64.wrap ((↑i : Int) + (1 : Int))))))] [(13, .none), (59, .none), (50059, (.some (.dat 27 7 O)))])))
 none))
 none))))
 none))
 (k (.ex 0) (St.of [(6, (.aref 50059 7 0 (O.length)))] [(59, .none), (50059, (.some (.dat 27 7 O)))]))) from by kernel_rfl).trans (by first | rfl | (simp only [decide_true, decide_false, eq_self, and_true, true_and, and_self, cond_true, cond_false, Nat.le_refl, Int.le_refl, Option.getD_some, Option.getD_none, Int.toNat_natCast, List.take_length, List.drop_zero, Nat.zero_add, List.nil_append, List.all_nil, List.append_nil, Bool.true_and, Bool.and_true, rowsA_sla, rowsA_sl, rowsA_nil, minus_zero, nat_le_cast, nat_nonneg, Option.isSome_some, Option.isSome_none, Bool.false_eq_true, false_and, and_false, if_true, if_false, implies_true, Int.toNat_zero, Bool.not_false, Bool.not_true, bne_self_eq_false]; done) | (simp only [decide_true, decide_false, eq_self, and_true, true_and, and_self, cond_true, cond_false, Nat.le_refl, Int.le_refl, Option.getD_some, Option.getD_none, Int.toNat_natCast, List.take_length, List.drop_zero, Nat.zero_add, List.nil_append, List.all_nil, List.append_nil, Bool.true_and, Bool.and_true, rowsA_sla, rowsA_sl, rowsA_nil, minus_zero, nat_le_cast, nat_nonneg, Option.isSome_some, Option.isSome_none, Bool.false_eq_true, false_and, and_false, if_true, if_false, implies_true, Int.toNat_zero, Bool.not_false, Bool.not_true, bne_self_eq_false]; rfl))
theorem t19 (n : Nat) (l : List (List DV)) (t : Int) : FK tab spM lM 20 (n+8) 19 [.sla false 7 l, .int .i64 t] =
   (need ((fltS (29 : FuncId)).D [DV.sla false 7 l, DV.int .i64 t])
 (bif
 (outN (List.filter (clB (29 : FuncId) t) l).length (decR (List.filter (clB (29 : FuncId) t) l))
 (rowP (List.filter (clB (29 : FuncId) t) l))).isEmpty then
 need
 (LoopOk (LB tab spM lM (20 : Nat) (n + (8 : Nat)) h190 c19l0)
 (St.of
 [(5, AV.d (DV.sla false 7 (List.filter (clB (29 : FuncId) t) l))), (6, AV.d DV.nilsl),
 ((7 : Nat), AV.d (DV.int .i64 0))]
 [(13, none), (59, none), (50059, none)])
 (Ex.ex (0 : Nat), St.of [(6, AV.d DV.nilsl)] [(59, none), (50059, none)]))
 (some DV.nilsl)
 else
 bif
 parB
 ((outN (List.filter (clB (29 : FuncId) t) l).length (decR (List.filter (clB (29 : FuncId) t) l))
 (rowP (List.filter (clB (29 : FuncId) t) l))).length -
 (1 : Nat)) then
 need
 (LoopOk (LB tab spM lM (20 : Nat) (n + (8 : Nat)) h190 c19l0)
 (St.of
 [(5, AV.d (DV.sla false 7 (List.filter (clB (29 : FuncId) t) l))), (6, AV.d DV.nilsl),
 ((7 : Nat), AV.d (DV.int .i64 0))]
 [(13, none), (59, none), (50059, none)])
 (Ex.ex (0 : Nat),
 St.of
 [((6 : Nat),
 AV.aref 59 7 0
 (outN (List.filter (clB (29 : FuncId) t) l).length (decR (List.filter (clB (29 : FuncId) t) l))
 (rowP (List.filter (clB (29 : FuncId) t) l))).length)]
 [((59 : Nat),
 some
 (Ob.dat 27 7
 (outN (List.filter (clB (29 : FuncId) t) l).length (decR (List.filter (clB (29 : FuncId) t) l))
 (rowP (List.filter (clB (29 : FuncId) t) l))))),
 ((50059 : Nat), none)]))
 (some
 (DV.sl (SK.own (27 : Nat)) (7 : Nat)
 (outN (List.filter (clB (29 : FuncId) t) l).length (decR (List.filter (clB (29 : FuncId) t) l))
 (rowP (List.filter (clB (29 : FuncId) t) l)))))
 else
 need
 (LoopOk (LB tab spM lM (20 : Nat) (n + (8 : Nat)) h190 c19l0)
 (St.of
 [(5, AV.d (DV.sla false 7 (List.filter (clB (29 : FuncId) t) l))), (6, AV.d DV.nilsl),
 ((7 : Nat), AV.d (DV.int .i64 0))]
 [(13, none), (59, none), (50059, none)])
 (Ex.ex (0 : Nat),
 St.of
 [((6 : Nat),
 AV.aref 50059 7 0
 (outN (List.filter (clB (29 : FuncId) t) l).length (decR (List.filter (clB (29 : FuncId) t) l))
 (rowP (List.filter (clB (29 : FuncId) t) l))).length)]
 [(59, none),
 ((50059 : Nat),
 some
 (Ob.dat 27 7
 (outN (List.filter (clB (29 : FuncId) t) l).length (decR (List.filter (clB (29 : FuncId) t) l))
 (rowP (List.filter (clB (29 : FuncId) t) l)))))]))
 (some
 (DV.sl (SK.own (27 : Nat)) (7 : Nat)
 (outN (List.filter (clB (29 : FuncId) t) l).length (decR (List.filter (clB (29 : FuncId) t) l))
 (rowP (List.filter (clB (29 : FuncId) t) l))))))) :=
  (show FK tab spM lM 20 (n+8) 19 [.sla false 7 l, .int .i64 t] =
 (need (FSpec.D (fltS (29 : FuncId)) [(.sla false 7 l), (.int .i64 t)])
 (cond ((outN (List.filter (clB (29 : FuncId) t) (rowsA (DV.sla false 7 l))).length (decR (List.filter (clB (29 : FuncId) t) (rowsA (DV.sla false 7 l)))) (rowP (List.filter (clB (29 : FuncId) t) (rowsA (DV.sla false 7 l))))).isEmpty)
 (need (LoopOk (LB tab spM lM ((20 : Nat)) (n + (8 : Nat)) h190 c19l0) (St.of [(5, (.d (.sla false 7 (List.filter (clB (29 : FuncId) t) (rowsA (DV.sla false 7 l)))))), (6, (.d .nilsl)), (7, (.d (.int .i64 ((0 : Int)))))] [(13, .none), (59, .none), (50059, .none)]) ((.ex 0), (St.of [(6, (.d .nilsl))] [(59, .none), (50059, .none)])))
 (some .nilsl))
 (cond (parB ((outN (List.filter (clB (29 : FuncId) t) (rowsA (DV.sla false 7 l))).length (decR (List.filter (clB (29 : FuncId) t) (rowsA (DV.sla false 7 l)))) (rowP (List.filter (clB (29 : FuncId) t) (rowsA (DV.sla false 7 l))))).length - (1 : Nat)))
 (need (LoopOk (LB tab spM lM ((20 : Nat)) (n + (8 : Nat)) h190 c19l0) (St.of [(5, (.d (.sla false 7 (List.filter (clB (29 : FuncId) t) (rowsA (DV.sla false 7 l)))))), (6, (.d .nilsl)), (7, (.d (.int .i64 ((0 : Int)))))] [(13, .none), (59, .none), (50059, .none)]) ((.ex 0), (St.of [(6, (.aref 59 7 0 ((outN (List.filter (clB 29 t) (rowsA (DV.sla false 7 l))).length (decR (List.filter (clB 29 t) (rowsA (DV.sla false 7 l)))) (rowP (List.filter (clB 29 t) (rowsA (DV.sla false 7 l))))).length)))] [(59, (.some (.dat 27 7 (outN (List.filter (clB (29 : FuncId) t) (rowsA (DV.sla false 7 l))).length (decR (List.filter (clB (29 : FuncId) t) (rowsA (DV.sla false 7 l)))) (rowP (List.filter (clB (29 : FuncId) t) (rowsA (DV.sla false 7 l)))))))), (50059, .none)])))
 (cond (decide ((outN (List.filter (clB (29 : FuncId) t) (rowsA (DV.sla false 7 l))).length (decR (List.filter (clB (29 : FuncId) t) (rowsA (DV.sla false 7 l)))) (rowP (List.filter (clB (29 : FuncId) t) (rowsA (DV.sla false 7 l))))).length = (outN (List.filter (clB (29 : FuncId) t) (rowsA (DV.sla false 7 l))).length (decR (List.filter (clB (29 : FuncId) t) (rowsA (DV.sla false 7 l)))) (rowP (List.filter (clB (29 : FuncId) t) (rowsA (DV.sla false 7 l))))).length))
 (some (.sl (SK.own (27 : Nat)) 7 (outN (List.filter (clB (29 : FuncId) t) (rowsA (DV.sla false 7 l))).length (decR (List.filter (clB (29 : FuncId) t) (rowsA (DV.sla false 7 l)))) (rowP (List.filter (clB (29 : FuncId) t) (rowsA (DV.sla false 7 l)))))))
 (cond (decide ((0 : Nat) + (outN (List.filter (clB (29 : FuncId) t) (rowsA (DV.sla false 7 l))).length (decR (List.filter (clB (29 : FuncId) t) (rowsA (DV.sla false 7 l)))) (rowP (List.filter (clB (29 : FuncId) t) (rowsA (DV.sla false 7 l))))).length ≤ (outN (List.filter (clB (29 : FuncId) t) (rowsA (DV.sla false 7 l))).length (decR (List.filter (clB (29 : FuncId) t) (rowsA (DV.sla false 7 l)))) (rowP (List.filter (clB (29 : FuncId) t) (rowsA (DV.sla false 7 l))))).length))
 (some (.sl (SK.ro) 7 (List.take (outN (List.filter (clB (29 : FuncId) t) (rowsA (DV.sla false 7 l))).length (decR (List.filter (clB (29 : FuncId) t) (rowsA (DV.sla false 7 l)))) (rowP (List.filter (clB (29 : FuncId) t) (rowsA (DV.sla false 7 l))))).length (outN (List.filter (clB (29 : FuncId) t) (rowsA (DV.sla false 7 l))).length (decR (List.filter (clB (29 : FuncId) t) (rowsA (DV.sla false 7 l)))) (rowP (List.filter (clB (29 : FuncId) t) (rowsA (DV.sla false 7 l))))))))
 none)))
 (need (LoopOk (LB tab spM lM ((20 : Nat)) (n + (8 : Nat)) h190 c19l0) (St.of [(5, (.d (.sla false 7 (List.filter (clB (29 : FuncId) t) (rowsA (DV.sla false 7 l)))))), (6, (.d .nilsl)), (7, (.d (.int .i64 ((0 : Int)))))] [(13, .none), (59, .none), (50059, .none)]) ((.ex 0), (St.of [(6, (.aref 50059 7 0 ((outN (List.filter (clB 29 t) (rowsA (DV.sla false 7 l))).length (decR (List.filter (clB 29 t) (rowsA (DV.sla false 7 l)))) (rowP (List.filter (clB 29 t) (rowsA (DV.sla false 7 l))))).length)))] [(59, .none), (50059, (.some (.dat 27 7 (outN (List.filter (clB (29 : FuncId) t) (rowsA (DV.sla false 7 l))).length (decR (List.filter (clB (29 : FuncId) t) (rowsA (DV.sla false 7 l)))) (rowP (List.filter (clB (29 : FuncId) t) (rowsA (DV.sla false 7 l))))))))])))
 (cond (decide ((outN (List.filter (clB (29 : FuncId) t) (rowsA (DV.sla false 7 l))).length (decR (List.filter (clB (29 : FuncId) t) (rowsA (DV.sla false 7 l)))) (rowP (List.filter (clB (29 : FuncId) t) (rowsA (DV.sla false 7 l))))).length = (outN (List.filter (clB (29 : FuncId) t) (rowsA (DV.sla false 7 l))).length (decR (List.filter (clB (29 : FuncId) t) (rowsA (DV.sla false 7 l)))) (rowP (List.filter (clB (29 : FuncId) t) (rowsA (DV.sla false 7 l))))).length))
 (some (.sl (SK.own (27 : Nat)) 7 (outN (List.filter (clB (29 : FuncId) t) (rowsA (DV.sla false 7 l))).length (decR (List.filter (clB (29 : FuncId) t) (rowsA (DV.sla false 7 l)))) (rowP (List.filter (clB (29 : FuncId) t) (rowsA (DV.sla false 7 l)))))))
 (cond (decide ((0 : Nat) + (outN (List.filter (clB (29 : FuncId) t) (rowsA (DV.sla false 7 l))).length (decR (List.filter (clB (29 : FuncId) t) (rowsA (DV.sla false 7 l)))) (rowP (List.filter (clB (29 : FuncId) t) (rowsA (DV.sla false 7 l))))).length ≤ (outN (List.filter (clB (29 : FuncId) t) (rowsA (DV.sla false 7 l))).length (decR (List.filter (clB (29 : FuncId) t) (rowsA (DV.sla false 7 l)))) (rowP (List.filter (clB (29 : FuncId) t) (rowsA (DV.sla false 7 l))))).length))
 (some (.sl (SK.ro) 7 (List.take (outN (List.filter (clB (29 : FuncId) t) (rowsA (DV.sla false 7 l))).length (decR (List.filter (clB (29 : FuncId) t) (rowsA (DV.sla false 7 l)))) (rowP (List.filter (clB (29 : FuncId) t) (rowsA (DV.sla false 7 l))))).length (outN (List.filter (clB (29 : FuncId) t) (rowsA (DV.sla false 7 l))).length (decR (List.filter (clB (29 : FuncId) t) (rowsA (DV.sla false 7 l)))) (rowP (List.filter (clB (29 : FuncId) t) (rowsA (DV.sla false 7 l))))))))
 none)))))) from by kernel_rfl).trans (by first | rfl | (simp only [decide_true, decide_false, eq_self, and_true, true_and, and_self, cond_true, cond_false, Nat.le_refl, Int.le_refl, Option.getD_some, Option.getD_none, Int.toNat_natCast, List.take_length, List.drop_zero, Nat.zero_add, List.nil_append, List.all_nil, List.append_nil, Bool.true_and, Bool.and_true, rowsA_sla, rowsA_sl, rowsA_nil, minus_zero, nat_le_cast, nat_nonneg, Option.isSome_some, Option.isSome_none, Bool.false_eq_true, false_and, and_false, if_true, if_false, implies_true, Int.toNat_zero, Bool.not_false, Bool.not_true, bne_self_eq_false]; done) | (simp only [decide_true, decide_false, eq_self, and_true, true_and, and_self, cond_true, cond_false, Nat.le_refl, Int.le_refl, Option.getD_some, Option.getD_none, Int.toNat_natCast, List.take_length, List.drop_zero, Nat.zero_add, List.nil_append, List.all_nil, List.append_nil, Bool.true_and, Bool.and_true, rowsA_sla, rowsA_sl, rowsA_nil, minus_zero, nat_le_cast, nat_nonneg, Option.isSome_some, Option.isSome_none, Bool.false_eq_true, false_and, and_false, if_true, if_false, implies_true, Int.toNat_zero, Bool.not_false, Bool.not_true, bne_self_eq_false]; rfl))
end Go.Proofs.Ytjejjokdbbedlaa
