/- What is known of the functions on rows of payments, by their runs: ahead of all like it, behind all like it. No condition. -/
import Derived.Test.YtngghbloijkfoaaRl
namespace Go.Proofs.Ytngghbloijkfoaa
open Go Go.Proofs Go.RowKit Vm
set_option linter.unusedVariables false
set_option linter.unusedSimpArgs false
def S280 (R : List (List DV)) (p : List DV) (i : Int) : St := St.of [(6, .aref 100013 7 0 R.length), (7, .ptr 7 7 0 0), (9, .d (.int .i64 i))] [(13, none), (100013, some (.dat 38 7 R)), (7, some (.dat 38 7 [p]))]
def frnS : FSpec where
  D ds := ∃ x id, ds = [x, .int .i64 id] ∧ I7 1000 x
  val ds := match ds with | [x, .int _ id] => some (.tuple [.sla false 7 (frnL (rowsA x) id), .int .i64 (frnE (rowsA x) id)]) | _ => none
theorem s280 (L n : Nat) (R : List (List DV)) (a0 a1 a2 a3 a4 a5 a6 : Int) (i : Nat) (k : Kont) : LB tab spN7 lq (L+4) (n+4) h280 c28l0 (S280 R [.int .i64 a0, .int .i64 a1, .int .i64 a2, .int .i64 a3, .int .i64 a4, .int .i64 a5, .int .i64 a6] i) k =
   (bif decide ((↑i : Int) < (↑R.length : Int)) then
 bif decide ((↑i : Int) < (↑R.length : Int)) then
 lookK R[i]? fun (e2 : List DV) =>
 bif decide ((7 : Nat) ≤ e2.length) then
 bif
 okRow
 [DV.int .i64 0, DV.int .i64 0, DV.int .i64 0, DV.int .i64 0, DV.int .i64 0, DV.int .i64 0, DV.int .i64 0]
 (List.take (7 : Nat) e2) then
 bif decide ((cellA (List.take (7 : Nat) e2) 1).toI < a1) then
 bif decide ((cellA (List.take (7 : Nat) e2) 4).toI < a4) then
 k Ex.nrm
 (St.of
 [(6, AV.aref 100013 7 0 R.length), (7, AV.ptr 7 7 0 0),
 ((9 : Nat), AV.d (DV.int .i64 (IntKind.i64.wrap ((↑i : Int) + (1 : Int)))))]
 [(13, none), (100013, some (Ob.dat 38 7 R)),
 ((7 : Nat),
 some
 (Ob.dat 38 7
 [[DV.int .i64 a0, DV.int .i64 a1, DV.int .i64 a2, DV.int .i64 a3, DV.int .i64 a4, DV.int .i64 a5, DV.int .i64 a6]]))])
 else
 bif decide ((cellA (List.take (7 : Nat) e2) 4).toI > a4) then
 k Ex.nrm
 (St.of
 [(6, AV.aref 100013 7 0 R.length), (7, AV.ptr 7 7 0 0),
 ((9 : Nat), AV.d (DV.int .i64 (IntKind.i64.wrap ((↑i : Int) + (1 : Int)))))]
 [(13, none), (100013, some (Ob.dat 38 7 R)),
 ((7 : Nat),
 some
 (Ob.dat 38 7
 [[DV.int .i64 a0, DV.int .i64 a1, DV.int .i64 a2, DV.int .i64 a3, DV.int .i64 a4, DV.int .i64 a5, DV.int .i64 a6]]))])
 else
 k Ex.nrm
 (St.of
 [(6, AV.aref 100013 7 0 R.length), (7, AV.ptr 7 7 0 0),
 ((9 : Nat), AV.d (DV.int .i64 (IntKind.i64.wrap ((↑i : Int) + (1 : Int)))))]
 [(13, none), (100013, some (Ob.dat 38 7 R)),
 ((7 : Nat),
 some
 (Ob.dat 38 7
 [[DV.int .i64 a0, DV.int .i64 a1, DV.int .i64 a2, DV.int .i64 a3, DV.int .i64 a4, DV.int .i64 a5, DV.int .i64 a6]]))])
 else
 bif decide ((cellA (List.take (7 : Nat) e2) 1).toI > a1) then
 bif decide ((cellA (List.take (7 : Nat) e2) 4).toI < a4) then
 k (Ex.ex (0 : Nat))
 (St.of
 [(6, AV.aref 100013 7 0 R.length), (7, AV.ptr 7 7 0 0),
 ((9 : Nat), AV.d (DV.int .i64 (↑i : Int)))]
 [(13, none), (100013, some (Ob.dat 38 7 R)),
 ((7 : Nat),
 some
 (Ob.dat 38 7
 [[DV.int .i64 a0, DV.int .i64 a1, DV.int .i64 a2, DV.int .i64 a3, DV.int .i64 a4, DV.int .i64 a5, DV.int .i64 a6]]))])
 else
 bif decide ((cellA (List.take (7 : Nat) e2) 4).toI > a4) then
 k (Ex.ex (0 : Nat))
 (St.of
 [(6, AV.aref 100013 7 0 R.length), (7, AV.ptr 7 7 0 0),
 ((9 : Nat), AV.d (DV.int .i64 (↑i : Int)))]
 [(13, none), (100013, some (Ob.dat 38 7 R)),
 ((7 : Nat),
 some
 (Ob.dat 38 7
 [[DV.int .i64 a0, DV.int .i64 a1, DV.int .i64 a2, DV.int .i64 a3, DV.int .i64 a4, DV.int .i64 a5, DV.int .i64 a6]]))])
 else
 k (Ex.ex (0 : Nat))
 (St.of
 [(6, AV.aref 100013 7 0 R.length), (7, AV.ptr 7 7 0 0),
 ((9 : Nat), AV.d (DV.int .i64 (↑i : Int)))]
 [(13, none), (100013, some (Ob.dat 38 7 R)),
 ((7 : Nat),
 some
 (Ob.dat 38 7
 [[DV.int .i64 a0, DV.int .i64 a1, DV.int .i64 a2, DV.int .i64 a3, DV.int .i64 a4, DV.int .i64 a5, DV.int .i64 a6]]))])
 else
 bif decide ((cellA (List.take (7 : Nat) e2) 4).toI < a4) then
 k Ex.nrm
 (St.of
 [(6, AV.aref 100013 7 0 R.length), (7, AV.ptr 7 7 0 0),
 ((9 : Nat), AV.d (DV.int .i64 (IntKind.i64.wrap ((↑i : Int) + (1 : Int)))))]
 [(13, none), (100013, some (Ob.dat 38 7 R)),
 ((7 : Nat),
 some
 (Ob.dat 38 7
 [[DV.int .i64 a0, DV.int .i64 a1, DV.int .i64 a2, DV.int .i64 a3, DV.int .i64 a4, DV.int .i64 a5, DV.int .i64 a6]]))])
 else
 bif decide ((cellA (List.take (7 : Nat) e2) 4).toI > a4) then
 k (Ex.ex (0 : Nat))
 (St.of
 [(6, AV.aref 100013 7 0 R.length), (7, AV.ptr 7 7 0 0),
 ((9 : Nat), AV.d (DV.int .i64 (↑i : Int)))]
 [(13, none), (100013, some (Ob.dat 38 7 R)),
 ((7 : Nat),
 some
 (Ob.dat 38 7
 [[DV.int .i64 a0, DV.int .i64 a1, DV.int .i64 a2, DV.int .i64 a3, DV.int .i64 a4, DV.int .i64 a5, DV.int .i64 a6]]))])
 else
 k (Ex.ex (0 : Nat))
 (St.of
 [(6, AV.aref 100013 7 0 R.length), (7, AV.ptr 7 7 0 0),
 ((9 : Nat), AV.d (DV.int .i64 (↑i : Int)))]
 [(13, none), (100013, some (Ob.dat 38 7 R)),
 ((7 : Nat),
 some
 (Ob.dat 38 7
 [[DV.int .i64 a0, DV.int .i64 a1, DV.int .i64 a2, DV.int .i64 a3, DV.int .i64 a4, DV.int .i64 a5, DV.int .i64 a6]]))])
 else none
 else none
 else none
 else
 k (Ex.ex (0 : Nat))
 (St.of
 [(6, AV.aref 100013 7 0 R.length), (7, AV.ptr 7 7 0 0),
 ((9 : Nat), AV.d (DV.int .i64 (↑i : Int)))]
 [(13, none), (100013, some (Ob.dat 38 7 R)),
 ((7 : Nat),
 some
 (Ob.dat 38 7
 [[DV.int .i64 a0, DV.int .i64 a1, DV.int .i64 a2, DV.int .i64 a3, DV.int .i64 a4, DV.int .i64 a5, DV.int .i64 a6]]))])) :=
  (show LB tab spN7 lq (L+4) (n+4) h280 c28l0 (S280 R [.int .i64 a0, .int .i64 a1, .int .i64 a2, .int .i64 a3, .int .i64 a4, .int .i64 a5, .int .i64 a6] i) k =
 (cond (decide ((↑i : Int) < (↑R.length : Int)))
 (cond (decide ((↑i : Int) < (↑R.length : Int)))
 (lookK (R[(0 : Nat) + (↑i : Int).toNat]?)
 fun e2 =>
 (cond (decide ((7 : Nat) ≤ e2.length))
 (cond (okRow [DV.int .i64 0, DV.int .i64 0, DV.int .i64 0, DV.int .i64 0, DV.int .i64 0, DV.int .i64 0, DV.int .i64 0] (List.take (7 : Nat) e2))
 (cond ((cellA (List.take (7 : Nat) e2) 1).toI != (cellA (List.take (7 : Nat) e2) 1).toI)
 (cond (a1 != a1)
 (cond ((cellA (List.take (7 : Nat) e2) 4).toI != (cellA (List.take (7 : Nat) e2) 4).toI)
 (cond (a4 != a4)
 (k (.ex 0) (St.of [(6, (.aref 100013 7 0 (R.length))), (7, (.ptr 7 7 0 0)), (9, (.d (.int .i64 ((↑i : Int)))))] [(13, .none), (100013, (.some (.dat 38 7 R))), (7, (.some (.dat 38 7 [[(.int .i64 a0), (.int .i64 a1), (.int .i64 a2), (.int .i64 a3), (.int .i64 a4), (.int .i64 a5), (.int .i64 a6)]])))]))
 (k .nrm (St.of [(6, (.aref 100013 7 0 (R.length))), (7, (.ptr 7 7 0 0)), (9, (.d (.int .i64 (IntKind.i64.wrap ((↑i : Int) + (1 : Int))))))] [(13, .none), (100013, (.some (.dat 38 7 R))), (7, (.some (.dat 38 7 [[(.int .i64 a0), (.int .i64 a1), (.int .i64 a2), (.int .i64 a3), (.int .i64 a4), (.int .i64 a5), (.int .i64 a6)]])))])))
 (cond (a4 != a4)
 (k (.ex 0) (St.of [(6, (.aref 100013 7 0 (R.length))), (7, (.ptr 7 7 0 0)), (9, (.d (.int .i64 ((↑i : Int)))))] [(13, .none), (100013, (.some (.dat 38 7 R))), (7, (.some (.dat 38 7 [[(.int .i64 a0), (.int .i64 a1), (.int .i64 a2), (.int .i64 a3), (.int .i64 a4), (.int .i64 a5), (.int .i64 a6)]])))]))
 (cond (decide ((cellA (List.take (7 : Nat) e2) 4).toI < a4))
 (k .nrm (St.of [(6, (.aref 100013 7 0 (R.length))), (7, (.ptr 7 7 0 0)), (9, (.d (.int .i64 (IntKind.i64.wrap ((↑i : Int) + (1 : Int))))))] [(13, .none), (100013, (.some (.dat 38 7 R))), (7, (.some (.dat 38 7 [[(.int .i64 a0), (.int .i64 a1), (.int .i64 a2), (.int .i64 a3), (.int .i64 a4), (.int .i64 a5), (.int .i64 a6)]])))]))
 (cond (decide ((cellA (List.take (7 : Nat) e2) 4).toI > a4))
 (k (.ex 0) (St.of [(6, (.aref 100013 7 0 (R.length))), (7, (.ptr 7 7 0 0)), (9, (.d (.int .i64 ((↑i : Int)))))] [(13, .none), (100013, (.some (.dat 38 7 R))), (7, (.some (.dat 38 7 [[(.int .i64 a0), (.int .i64 a1), (.int .i64 a2), (.int .i64 a3), (.int .i64 a4), (.int .i64 a5), (.int .i64 a6)]])))]))
 (k (.ex 0) (St.of [(6, (.aref 100013 7 0 (R.length))), (7, (.ptr 7 7 0 0)), (9, (.d (.int .i64 ((↑i : Int)))))] [(13, .none), (100013, (.some (.dat 38 7 R))), (7, (.some (.dat 38 7 [[(.int .i64 a0), (.int .i64 a1), (.int .i64 a2), (.int .i64 a3), (.int .i64 a4), (.int .i64 a5), (.int .i64 a6)]])))]))))))
 (cond ((cellA (List.take (7 : Nat) e2) 4).toI != (cellA (List.take (7 : Nat) e2) 4).toI)
 (cond (a4 != a4)
 (k .nrm (St.of [(6, (.aref 100013 7 0 (R.length))), (7, (.ptr 7 7 0 0)), (9, (.d (.int .i64 (IntKind.i64.wrap ((↑i : Int) + (1 : Int))))))] [(13, .none), (100013, (.some (.dat 38 7 R))), (7, (.some (.dat 38 7 [[(.int .i64 a0), (.int .i64 a1), (.int .i64 a2), (.int .i64 a3), (.int .i64 a4), (.int .i64 a5), (.int .i64 a6)]])))]))
 (k .nrm (St.of [(6, (.aref 100013 7 0 (R.length))), (7, (.ptr 7 7 0 0)), (9, (.d (.int .i64 (IntKind.i64.wrap ((↑i : Int) + (1 : Int))))))] [(13, .none), (100013, (.some (.dat 38 7 R))), (7, (.some (.dat 38 7 [[(.int .i64 a0), (.int .i64 a1), (.int .i64 a2), (.int .i64 a3), (.int .i64 a4), (.int .i64 a5), (.int .i64 a6)]])))])))
 (cond (a4 != a4)
 (k .nrm (St.of [(6, (.aref 100013 7 0 (R.length))), (7, (.ptr 7 7 0 0)), (9, (.d (.int .i64 (IntKind.i64.wrap ((↑i : Int) + (1 : Int))))))] [(13, .none), (100013, (.some (.dat 38 7 R))), (7, (.some (.dat 38 7 [[(.int .i64 a0), (.int .i64 a1), (.int .i64 a2), (.int .i64 a3), (.int .i64 a4), (.int .i64 a5), (.int .i64 a6)]])))]))
 (cond (decide ((cellA (List.take (7 : Nat) e2) 4).toI < a4))
 (k .nrm (St.of [(6, (.aref 100013 7 0 (R.length))), (7, (.ptr 7 7 0 0)), (9, (.d (.int .i64 (IntKind.i64.wrap ((↑i : Int) + (1 : Int))))))] [(13, .none), (100013, (.some (.dat 38 7 R))), (7, (.some (.dat 38 7 [[(.int .i64 a0), (.int .i64 a1), (.int .i64 a2), (.int .i64 a3), (.int .i64 a4), (.int .i64 a5), (.int .i64 a6)]])))]))
 (cond (decide ((cellA (List.take (7 : Nat) e2) 4).toI > a4))
 (k .nrm (St.of [(6, (.aref 100013 7 0 (R.length))), (7, (.ptr 7 7 0 0)), (9, (.d (.int .i64 (IntKind.i64.wrap ((↑i : Int) + (1 : Int))))))] [(13, .none), (100013, (.some (.dat 38 7 R))), (7, (.some (.dat 38 7 [[(.int .i64 a0), (.int .i64 a1), (.int .i64 a2), (.int .i64 a3), (.int .i64 a4), (.int .i64 a5), (.int .i64 a6)]])))]))
 (k .nrm (St.of [(6, (.aref 100013 7 0 (R.length))), (7, (.ptr 7 7 0 0)), (9, (.d (.int .i64 (IntKind.i64.wrap ((↑i : Int) + (1 : Int))))))] [(13, .none), (100013, (.some (.dat 38 7 R))), (7, (.some (.dat 38 7 [[(.int .i64 a0), (.int .i64 a1), (.int .i64 a2), (.int .i64 a3), (.int .i64 a4), (.int .i64 a5), (.int .i64 a6)]])))])))))))
 (cond (a1 != a1)
 (cond ((cellA (List.take (7 : Nat) e2) 4).toI != (cellA (List.take (7 : Nat) e2) 4).toI)
 (cond (a4 != a4)
 (k (.ex 0) (St.of [(6, (.aref 100013 7 0 (R.length))), (7, (.ptr 7 7 0 0)), (9, (.d (.int .i64 ((↑i : Int)))))] [(13, .none), (100013, (.some (.dat 38 7 R))), (7, (.some (.dat 38 7 [[(.int .i64 a0), (.int .i64 a1), (.int .i64 a2), (.int .i64 a3), (.int .i64 a4), (.int .i64 a5), (.int .i64 a6)]])))]))
 (k (.ex 0) (St.of [(6, (.aref 100013 7 0 (R.length))), (7, (.ptr 7 7 0 0)), (9, (.d (.int .i64 ((↑i : Int)))))] [(13, .none), (100013, (.some (.dat 38 7 R))), (7, (.some (.dat 38 7 [[(.int .i64 a0), (.int .i64 a1), (.int .i64 a2), (.int .i64 a3), (.int .i64 a4), (.int .i64 a5), (.int .i64 a6)]])))])))
 (cond (a4 != a4)
 (k (.ex 0) (St.of [(6, (.aref 100013 7 0 (R.length))), (7, (.ptr 7 7 0 0)), (9, (.d (.int .i64 ((↑i : Int)))))] [(13, .none), (100013, (.some (.dat 38 7 R))), (7, (.some (.dat 38 7 [[(.int .i64 a0), (.int .i64 a1), (.int .i64 a2), (.int .i64 a3), (.int .i64 a4), (.int .i64 a5), (.int .i64 a6)]])))]))
 (cond (decide ((cellA (List.take (7 : Nat) e2) 4).toI < a4))
 (k (.ex 0) (St.of [(6, (.aref 100013 7 0 (R.length))), (7, (.ptr 7 7 0 0)), (9, (.d (.int .i64 ((↑i : Int)))))] [(13, .none), (100013, (.some (.dat 38 7 R))), (7, (.some (.dat 38 7 [[(.int .i64 a0), (.int .i64 a1), (.int .i64 a2), (.int .i64 a3), (.int .i64 a4), (.int .i64 a5), (.int .i64 a6)]])))]))
 (cond (decide ((cellA (List.take (7 : Nat) e2) 4).toI > a4))
 (k (.ex 0) (St.of [(6, (.aref 100013 7 0 (R.length))), (7, (.ptr 7 7 0 0)), (9, (.d (.int .i64 ((↑i : Int)))))] [(13, .none), (100013, (.some (.dat 38 7 R))), (7, (.some (.dat 38 7 [[(.int .i64 a0), (.int .i64 a1), (.int .i64 a2), (.int .i64 a3), (.int .i64 a4), (.int .i64 a5), (.int .i64 a6)]])))]))
 (k (.ex 0) (St.of [(6, (.aref 100013 7 0 (R.length))), (7, (.ptr 7 7 0 0)), (9, (.d (.int .i64 ((↑i : Int)))))] [(13, .none), (100013, (.some (.dat 38 7 R))), (7, (.some (.dat 38 7 [[(.int .i64 a0), (.int .i64 a1), (.int .i64 a2), (.int .i64 a3), (.int .i64 a4), (.int .i64 a5), (.int .i64 a6)]])))]))))))
 (cond (decide ((cellA (List.take (7 : Nat) e2) 1).toI < a1))
 (cond ((cellA (List.take (7 : Nat) e2) 4).toI != (cellA (List.take (7 : Nat) e2) 4).toI)
 (cond (a4 != a4)
 (k .nrm (St.of [(6, (.aref 100013 7 0 (R.length))), (7, (.ptr 7 7 0 0)), (9, (.d (.int .i64 (IntKind.i64.wrap ((↑i : Int) + (1 : Int))))))] [(13, .none), (100013, (.some (.dat 38 7 R))), (7, (.some (.dat 38 7 [[(.int .i64 a0), (.int .i64 a1), (.int .i64 a2), (.int .i64 a3), (.int .i64 a4), (.int .i64 a5), (.int .i64 a6)]])))]))
 (k .nrm (St.of [(6, (.aref 100013 7 0 (R.length))), (7, (.ptr 7 7 0 0)), (9, (.d (.int .i64 (IntKind.i64.wrap ((↑i : Int) + (1 : Int))))))] [(13, .none), (100013, (.some (.dat 38 7 R))), (7, (.some (.dat 38 7 [[(.int .i64 a0), (.int .i64 a1), (.int .i64 a2), (.int .i64 a3), (.int .i64 a4), (.int .i64 a5), (.int .i64 a6)]])))])))
 (cond (a4 != a4)
 (k .nrm (St.of [(6, (.aref 100013 7 0 (R.length))), (7, (.ptr 7 7 0 0)), (9, (.d (.int .i64 (IntKind.i64.wrap ((↑i : Int) + (1 : Int))))))] [(13, .none), (100013, (.some (.dat 38 7 R))), (7, (.some (.dat 38 7 [[(.int .i64 a0), (.int .i64 a1), (.int .i64 a2), (.int .i64 a3), (.int .i64 a4), (.int .i64 a5), (.int .i64 a6)]])))]))
 (cond (decide ((cellA (List.take (7 : Nat) e2) 4).toI < a4))
 (k .nrm (St.of [(6, (.aref 100013 7 0 (R.length))), (7, (.ptr 7 7 0 0)), (9, (.d (.int .i64 (IntKind.i64.wrap ((↑i : Int) + (1 : Int))))))] [(13, .none), (100013, (.some (.dat 38 7 R))), (7, (.some (.dat 38 7 [[(.int .i64 a0), (.int .i64 a1), (.int .i64 a2), (.int .i64 a3), (.int .i64 a4), (.int .i64 a5), (.int .i64 a6)]])))]))
 (cond (decide ((cellA (List.take (7 : Nat) e2) 4).toI > a4))
 (k .nrm (St.of [(6, (.aref 100013 7 0 (R.length))), (7, (.ptr 7 7 0 0)), (9, (.d (.int .i64 (IntKind.i64.wrap ((↑i : Int) + (1 : Int))))))] [(13, .none), (100013, (.some (.dat 38 7 R))), (7, (.some (.dat 38 7 [[(.int .i64 a0), (.int .i64 a1), (.int .i64 a2), (.int .i64 a3), (.int .i64 a4), (.int .i64 a5), (.int .i64 a6)]])))]))
 (k .nrm (St.of [(6, (.aref 100013 7 0 (R.length))), (7, (.ptr 7 7 0 0)), (9, (.d (.int .i64 (IntKind.i64.wrap ((↑i : Int) + (1 : Int))))))] [(13, .none), (100013, (.some (.dat 38 7 R))), (7, (.some (.dat 38 7 [[(.int .i64 a0), (.int .i64 a1), (.int .i64 a2), (.int .i64 a3), (.int .i64 a4), (.int .i64 a5), (.int .i64 a6)]])))]))))))
 (cond (decide ((cellA (List.take (7 : Nat) e2) 1).toI > a1))
 (cond ((cellA (List.take (7 : Nat) e2) 4).toI != (cellA (List.take (7 : Nat) e2) 4).toI)
 (cond (a4 != a4)
 (k (.ex 0) (St.of [(6, (.aref 100013 7 0 (R.length))), (7, (.ptr 7 7 0 0)), (9, (.d (.int .i64 ((↑i : Int)))))] [(13, .none), (100013, (.some (.dat 38 7 R))), (7, (.some (.dat 38 7 [[(.int .i64 a0), (.int .i64 a1), (.int .i64 a2), (.int .i64 a3), (.int .i64 a4), (.int .i64 a5), (.int .i64 a6)]])))]))
 (k (.ex 0) (St.of [(6, (.aref 100013 7 0 (R.length))), (7, (.ptr 7 7 0 0)), (9, (.d (.int .i64 ((↑i : Int)))))] [(13, .none), (100013, (.some (.dat 38 7 R))), (7, (.some (.dat 38 7 [[(.int .i64 a0), (.int .i64 a1), (.int .i64 a2), (.int .i64 a3), (.int .i64 a4), (.int .i64 a5), (.int .i64 a6)]])))])))
 (cond (a4 != a4)
 (k (.ex 0) (St.of [(6, (.aref 100013 7 0 (R.length))), (7, (.ptr 7 7 0 0)), (9, (.d (.int .i64 ((↑i : Int)))))] [(13, .none), (100013, (.some (.dat 38 7 R))), (7, (.some (.dat 38 7 [[(.int .i64 a0), (.int .i64 a1), (.int .i64 a2), (.int .i64 a3), (.int .i64 a4), (.int .i64 a5), (.int .i64 a6)]])))]))
 (cond (decide ((cellA (List.take (7 : Nat) e2) 4).toI < a4))
 (k (.ex 0) (St.of [(6, (.aref 100013 7 0 (R.length))), (7, (.ptr 7 7 0 0)), (9, (.d (.int .i64 ((↑i : Int)))))] [(13, .none), (100013, (.some (.dat 38 7 R))), (7, (.some (.dat 38 7 [[(.int .i64 a0), (.int .i64 a1), (.int .i64 a2), (.int .i64 a3), (.int .i64 a4), (.int .i64 a5), (.int .i64 a6)]])))]))
 (cond (decide ((cellA (List.take (7 : Nat) e2) 4).toI > a4))
 (k (.ex 0) (St.of [(6, (.aref 100013 7 0 (R.length))), (7, (.ptr 7 7 0 0)), (9, (.d (.int .i64 ((↑i : Int)))))] [(13, .none), (100013, (.some (.dat 38 7 R))), (7, (.some (.dat 38 7 [[(.int .i64 a0), (.int .i64 a1), (.int .i64 a2), (.int .i64 a3), (.int .i64 a4), (.int .i64 a5), (.int .i64 a6)]])))]))
 (k (.ex 0) (St.of [(6, (.aref 100013 7 0 (R.length))), (7, (.ptr 7 7 0 0)), (9, (.d (.int .i64 ((↑i : Int)))))] [(13, .none), (100013, (.some (.dat 38 7 R))), (7, (.some (.dat 38 7 [[(.int .i64 a0), (.int .i64 a1), (.int .i64 a2), (.int .i64 a3), (.int .i64 a4), (.int .i64 a5), (.int .i64 a6)]])))]))))))
 (cond ((cellA (List.take (7 : Nat) e2) 4).toI != (cellA (List.take (7 : Nat) e2) 4).toI)
 (cond (a4 != a4)
 (k (.ex 0) (St.of [(6, (.aref 100013 7 0 (R.length))), (7, (.ptr 7 7 0 0)), (9, (.d (.int .i64 ((↑i : Int)))))] [(13, .none), (100013, (.some (.dat 38 7 R))), (7, (.some (.dat 38 7 [[(.int .i64 a0), (.int .i64 a1), (.int .i64 a2), (.int .i64 a3), (.int .i64 a4), (.int .i64 a5), (.int .i64 a6)]])))]))
 (k .nrm (St.of [(6, (.aref 100013 7 0 (R.length))), (7, (.ptr 7 7 0 0)), (9, (.d (.int .i64 (IntKind.i64.wrap ((↑i : Int) + (1 : Int))))))] [(13, .none), (100013, (.some (.dat 38 7 R))), (7, (.some (.dat 38 7 [[(.int .i64 a0), (.int .i64 a1), (.int .i64 a2), (.int .i64 a3), (.int .i64 a4), (.int .i64 a5), (.int .i64 a6)]])))])))
 (cond (a4 != a4)
 (k (.ex 0) (St.of [(6, (.aref 100013 7 0 (R.length))), (7, (.ptr 7 7 0 0)), (9, (.d (.int .i64 ((↑i : Int)))))] [(13, .none), (100013, (.some (.dat 38 7 R))), (7, (.some (.dat 38 7 [[(.int .i64 a0), (.int .i64 a1), (.int .i64 a2), (.int .i64 a3), (.int .i64 a4), (.int .i64 a5), (.int .i64 a6)]])))]))
 (cond (decide ((cellA (List.take (7 : Nat) e2) 4).toI < a4))
 (k .nrm (St.of [(6, (.aref 100013 7 0 (R.length))), (7, (.ptr 7 7 0 0)), (9, (.d (.int .i64 (IntKind.i64.wrap ((↑i : Int) + (1 : Int))))))] [(13, .none), (100013, (.some (.dat 38 7 R))), (7, (.some (.dat 38 7 [[(.int .i64 a0), (.int .i64 a1), (.int .i64 a2), (.int .i64 a3), (.int .i64 a4), (.int .i64 a5), (.int .i64 a6)]])))]))
 (cond (decide ((cellA (List.take (7 : Nat) e2) 4).toI > a4))
 (k (.ex 0) (St.of [(6, (.aref 100013 7 0 (R.length))), (7, (.ptr 7 7 0 0)), (9, (.d (.int .i64 ((↑i : Int)))))] [(13, .none), (100013, (.some (.dat 38 7 R))), (7, (.some (.dat 38 7 [[(.int .i64 a0), (.int .i64 a1), (.int .i64 a2), (.int .i64 a3), (.int .i64 a4), (.int .i64 a5), (.int .i64 a6)]])))]))
 (k (.ex 0) (St.of [(6, (.aref 100013 7 0 (R.length))), (7, (.ptr 7 7 0 0)), (9, (.d (.int .i64 ((↑i : Int)))))] [(13, .none), (100013, (.some (.dat 38 7 R))), (7, (.some (.dat 38 7 [[(.int .i64 a0), (.int .i64 a1), (.int .i64 a2), (.int .i64 a3), (.int .i64 a4), (.int .i64 a5), (.int .i64 a6)]])))]))))))))))
 none)
 none))
 none)
 (k (.ex 0) (St.of [(6, (.aref 100013 7 0 (R.length))), (7, (.ptr 7 7 0 0)), (9, (.d (.int .i64 ((↑i : Int)))))] [(13, .none), (100013, (.some (.dat 38 7 R))), (7, (.some (.dat 38 7 [[(.int .i64 a0), (.int .i64 a1), (.int .i64 a2), (.int .i64 a3), (.int .i64 a4), (.int .i64 a5), (.int .i64 a6)]])))]))) from by kernel_rfl).trans (by first | rfl | (simp only [decide_true, decide_false, eq_self, and_true, true_and, and_self, cond_true, cond_false, Nat.le_refl, Int.le_refl, Option.getD_some, Option.getD_none, Int.toNat_natCast, List.take_length, List.drop_zero, Nat.zero_add, List.nil_append, List.all_nil, List.append_nil, Bool.true_and, Bool.and_true, rowsA_sla, rowsA_sl, rowsA_nil, minus_zero, nat_le_cast, nat_nonneg, Option.isSome_some, Option.isSome_none, Bool.false_eq_true, false_and, and_false, if_true, if_false, implies_true, Int.toNat_zero, Bool.not_false, Bool.not_true, bne_self_eq_false]; done) | (simp only [decide_true, decide_false, eq_self, and_true, true_and, and_self, cond_true, cond_false, Nat.le_refl, Int.le_refl, Option.getD_some, Option.getD_none, Int.toNat_natCast, List.take_length, List.drop_zero, Nat.zero_add, List.nil_append, List.all_nil, List.append_nil, Bool.true_and, Bool.and_true, rowsA_sla, rowsA_sl, rowsA_nil, minus_zero, nat_le_cast, nat_nonneg, Option.isSome_some, Option.isSome_none, Bool.false_eq_true, false_and, and_false, if_true, if_false, implies_true, Int.toNat_zero, Bool.not_false, Bool.not_true, bne_self_eq_false]; rfl))
theorem t28n (L n : Nat) (id : Int) : FK tab spN7 lq L (n+8) 28 [.nilsl, .int .i64 id] =
   (need (fndS.D [DV.nilsl, DV.int .i64 id]) (some (DV.tuple [DV.nilsl, DV.int .i64 4]))) :=
  (show FK tab spN7 lq L (n+8) 28 [.nilsl, .int .i64 id] =
 (need (FSpec.D (fndS) [.nilsl, (.int .i64 id)])
 (some (.tuple [.nilsl, (.int .i64 ((4 : Int)))]))) from by kernel_rfl).trans (by first | rfl | (simp only [decide_true, decide_false, eq_self, and_true, true_and, and_self, cond_true, cond_false, Nat.le_refl, Int.le_refl, Option.getD_some, Option.getD_none, Int.toNat_natCast, List.take_length, List.drop_zero, Nat.zero_add, List.nil_append, List.all_nil, List.append_nil, Bool.true_and, Bool.and_true, rowsA_sla, rowsA_sl, rowsA_nil, minus_zero, nat_le_cast, nat_nonneg, Option.isSome_some, Option.isSome_none, Bool.false_eq_true, false_and, and_false, if_true, if_false, implies_true, Int.toNat_zero, Bool.not_false, Bool.not_true, bne_self_eq_false]; done) | (simp only [decide_true, decide_false, eq_self, and_true, true_and, and_self, cond_true, cond_false, Nat.le_refl, Int.le_refl, Option.getD_some, Option.getD_none, Int.toNat_natCast, List.take_length, List.drop_zero, Nat.zero_add, List.nil_append, List.all_nil, List.append_nil, Bool.true_and, Bool.and_true, rowsA_sla, rowsA_sl, rowsA_nil, minus_zero, nat_le_cast, nat_nonneg, Option.isSome_some, Option.isSome_none, Bool.false_eq_true, false_and, and_false, if_true, if_false, implies_true, Int.toNat_zero, Bool.not_false, Bool.not_true, bne_self_eq_false]; rfl))
theorem take7 {e : List DV} (h : okRow z7 e = true) : decide (7 ≤ e.length) = true ∧ e.take 7 = e := by
  obtain ⟨a0, a1, a2, a3, a4, a5, a6, rfl⟩ := okRow_p h
  exact ⟨rfl, rfl⟩
theorem loop280 (L n : Nat) {es : List (List DV)} (hz : ∀ e ∈ es, okRow z7 e = true) (hl : es.length ≤ 1000) {p : List DV} (hp : okRow z7 p = true) :
    LoopOk (LB tab spN7 lq (L+4) (n+4) h280 c28l0) (S280 es p 0) (.ex 0, S280 es p (frP es p)) := by
  have hstep : ∀ (i : Nat) (hi : i < es.length) k, LB tab spN7 lq (L+4) (n+4) h280 c28l0 (S280 es p (i : Nat)) k = cond (decide (ordI es[i] p < 0)) (k .nrm (S280 es p ((i + 1 : Nat) : Int))) (k (.ex 0) (S280 es p (i : Nat))) := by
    intro i hi k
    have hzi := hz _ (List.getElem_mem hi)
    obtain ⟨t1, t2⟩ := take7 hzi
    obtain ⟨a0, a1, a2, a3, a4, a5, a6, rfl⟩ := okRow_p hp
    have e : ordI es[i] [.int .i64 a0, .int .i64 a1, .int .i64 a2, .int .i64 a3, .int .i64 a4, .int .i64 a5, .int .i64 a6] = cond (decide ((cellA es[i] 1).toI < a1)) (-1) (cond (decide ((cellA es[i] 1).toI > a1)) 1 (cond (decide ((cellA es[i] 4).toI < a4)) (-1) (cond (decide ((cellA es[i] 4).toI > a4)) 1 0))) := rfl
    rw [e, s280, lt_dec hi, cond_true, cond_true, look_nat hi, t1, t2, hzi, cond_true, cond_true, wrap_succ (by omega)]
    cases decide ((cellA es[i] 1).toI < a1) <;> cases decide ((cellA es[i] 1).toI > a1) <;> cases decide ((cellA es[i] 4).toI < a4) <;> cases decide ((cellA es[i] 4).toI > a4) <;> rfl
  have hend : ∀ k, LB tab spN7 lq (L+4) (n+4) h280 c28l0 (S280 es p (es.length : Nat)) k = k (.ex 0) (S280 es p (es.length : Nat)) := fun k => by
    obtain ⟨a0, a1, a2, a3, a4, a5, a6, rfl⟩ := okRow_p hp
    rw [s280, lt_dec_self]
    rfl
  obtain ⟨p0, p1, p2⟩ := tw_spec (fun e => decide (ordI e p < 0)) es
  change frP es p ≤ es.length at p0
  change ∀ i (_ : i < frP es p) (h2 : i < es.length), decide (ordI es[i] p < 0) = true at p1
  change ∀ h : frP es p < es.length, decide (ordI es[frP es p] p < 0) = false at p2
  refine loop_meas (fun i : Nat => S280 es p (i : Nat)) (fun i => es.length - i) (fun i => i ≤ frP es p) (fun _ => (.ex 0, S280 es p (frP es p)))
    (fun i hs => ?_) 0 (Nat.zero_le _)
  by_cases hi : i < es.length
  · cases hc : decide (ordI es[i] p < 0) with
    | true =>
      left
      have hlt : i < frP es p := by
        apply Nat.lt_of_not_le
        intro hge
        have : i = frP es p := by omega
        subst this
        rw [p2 hi] at hc
        cases hc
      exact ⟨i + 1, hlt, by omega, rfl, fun k => by rw [hstep i hi, hc]; rfl⟩
    | false =>
      right
      have : i = frP es p := by
        apply Nat.le_antisymm hs
        apply Nat.le_of_not_lt
        intro hlt
        rw [p1 i hlt hi] at hc
        cases hc
      refine ⟨by simp, fun k => ?_⟩
      rw [hstep i hi, hc, cond_false, this]
  · right
    have h1 : i = es.length := by omega
    have h2 : frP es p = es.length := by omega
    refine ⟨by simp, fun k => ?_⟩
    rw [h1, hend, h2]
theorem spN7_ok : ∀ f s, spN7 f = some s → s.ok Try.prog f := spAdd_ok fnd34 (spAdd_ok del43S (spAdd_ok ins41 noSp_ok))
theorem fr_le (es : List (List DV)) (p : List DV) : frP es p ≤ es.length := (tw_spec (fun e => decide (ordI e p < 0)) es).1
theorem front28 : frnS.ok Try.prog 28 := fun ds r hD hv => by
  obtain ⟨x, id, rfl, hx, hz, hl⟩ := hD
  cases hv
  refine EntX.gen1 hx (EntX.sla (fun he => ?_) ?_)
  · rw [he]
    refine resP (x := .nilsl) (DLe.nil _ _) (spec_run (lsp := lq) tab_ok spN7_ok 20 (0 + 8) ((t28n 20 0 id).trans ?_))
    exact need_pos ⟨_, _, rfl, Sl.nil _, by simp [rowsA], by simp [rowsA]⟩
  · generalize rowsA x = es at *
    have hD1 : fndS.D [.sl .ro 7 es, .int .i64 id] := ⟨_, _, rfl, Sl.sl _ _ _, hz, hl⟩
    have h28 := t28 (16 + 4) 0 es id
    rw [need_pos hD1] at h28
    unfold frnL frnE dropL dropP
    by_cases h1 : fI es id < 0
    · rw [decide_eq_true h1] at h28 ⊢
      exact resP (x := .sl .ro 7 es) (DLe.sl _ _ _) (spec_run (lsp := lq) tab_ok spN7_ok (16 + 4) (0 + 8) h28)
    · rw [decide_eq_false h1] at h28 ⊢
      obtain ⟨hi, _⟩ := fI_at es id (by omega)
      have hlen := (fI_lt es id).1
      have hcast : (((fI es id).toNat : Nat) : Int) = fI es id := by omega
      have hw : IntKind.i64.wrap (fI es id + 1) = fI es id + 1 := wrap_fits (by omega) (by omega)
      have hzi := hz _ (List.getElem_mem hi)
      have hdz := (drop_rows hz id).1
      have hdl := (drop_rows hz id).2
      unfold dropL at hdz hdl
      rw [decide_eq_false h1, cond_false] at hdz hdl
      have hL := loop280 16 (0 + 4) hdz (by omega) hzi
      have hI : insP.D [DV.mv 38 7 (delB es (fI es id).toNat), DV.int .i64 (frP (delB es (fI es id).toNat) es[(fI es id).toNat] : Nat), DV.sl .tight 7 [es[(fI es id).toNat]]] := ⟨_, _, _, _, .inl ⟨rfl, fr_le _ _⟩, by omega, Sl.sl _ _ _, rfl, hzi⟩
      have hd : delS.D [DV.mv 38 7 es, DV.int .i64 (fI es id), DV.int .i64 (fI es id + 1)] := ⟨es, (fI es id).toNat, by rw [hcast], hi⟩
      rw [cond_false, decide_eq_false (show ¬ es.length = 0 by omega), cond_false, all_one7 hz, cond_true, room7 (by omega), cond_true, hw, need_pos hd, decide_eq_true (show 0 ≤ fI es id by omega), cond_true, look_nat hi, hzi, cond_true, eta7 hzi] at h28
      have h28 := (h28.trans (need_pos hL)).trans (need_pos hI)
      simp only [cond_false, List.getElem?_eq_getElem hi, Option.getD_some]
      exact resP (x := .sl (.own 38) 7 _) (DLe.sl _ _ _) (spec_run (lsp := lq) tab_ok spN7_ok (16 + 4) (0 + 8) h28)
theorem back29 : bakS.ok Try.prog 29 := fun ds r hD hv => by
  obtain ⟨x, id, rfl, hx, hz, hl⟩ := hD
  cases hv
  refine EntX.gen1 hx ?_
  generalize rowsA x = es at *
  have h := (t29 20 0 es id).trans (need_pos ⟨_, _, rfl, Sl.sla _ _ _, hz, hl⟩)
  unfold bakL bakE
  obtain ⟨d1, d2⟩ := drop_rows hz id
  by_cases h1 : fI es id < 0
  · have e : dropE es id = 4 := by unfold dropE; rw [decide_eq_true h1]; rfl
    have eL : dropL es id = es := by unfold dropL; rw [decide_eq_true h1]; rfl
    rw [e] at h
    rw [decide_eq_true h1]
    exact spec_run (lsp := lsp0) tab_ok spC7_ok 20 (0 + 8) h
  · have e : dropE es id = 0 := by unfold dropE; rw [decide_eq_false h1]; rfl
    rw [e] at h
    rw [decide_eq_false h1]
    exact spec_run (lsp := lsp0) tab_ok spC7_ok 20 (0 + 8) (h.trans (need_pos ⟨_, _, rfl, ⟨Sl.sla _ _ _, d1, by rw [rowsA_sla]; omega⟩, rfl⟩))
end Go.Proofs.Ytngghbloijkfoaa
