/- What may go of one: all, or the first; the law's runs. No condition. -/
import Derived.Test.YtjejjokdbbedlaaVq
namespace Go.Proofs.Ytjejjokdbbedlaa
open Go Go.Proofs Go.RowKit Vm
set_option linter.unusedVariables false
set_option linter.unusedSimpArgs false
noncomputable def spT : FuncId → Option FSpec := spAdd 7 rowS (spAdd 8 (mayS decM) (spAdd 10 (fltS 29) (spAdd 9 (fltS 31) (spAdd 11 rdyS (spAdd 12 fndS (spAdd 13 knoS noSp))))))
def T30 (t : Int) (r m : List (List DV)) (i : Int) : St := St.of [(1, .d (.int .i64 t)), (5, .d (.sla false 7 r)), (6, .d (.sla false 7 m)), (7, .d (.int .i64 i))] [(16, none), (19, none)]
def T31 (t : Int) (r m : List (List DV)) (i : Int) : St := St.of [(1, .d (.int .i64 t)), (5, .d (.sla false 7 r)), (6, .d (.sla false 7 m)), (11, .d (.int .i64 i))] [(16, none), (19, none)]
def m30 : LSpec := fun st => match st.env 1, st.env 5, st.env 6 with
  | .d (.int _ t), .d (.sla _ _ r), .d (.sla _ _ m) => .one (.ex 0) (St.of [(1, .d (.int .i64 t)), (5, .d (.sla false 7 r)), (6, .d (.sla false 7 m))] [(16, none), (19, none)])
  | _, _, _ => .no
def m31 : LSpec := fun st => .one (.ex 2) (St.of [] [])
def lQ3 (k : Nat) : Option LSpec := if k = 30 then some m30 else if k = 31 then some m31 else none
theorem s30 (L n : Nat) (t : Int) (r m : List (List DV)) (i : Nat) (k : Kont) : LB tab spT lQ3 L (n+4) h30 c3l0 (T30 t r m i) k =
   (bif decide ((↑i : Int) < (3 : Int)) then
 need ((fltS (29 : FuncId)).D [DV.sla false 7 r, DV.int .i64 t])
 (need ((fltS (31 : FuncId)).D [DV.sla false 7 (List.filter (clB (29 : FuncId) t) r), DV.int .i64 (↑i : Int)])
 (need ((fltS (31 : FuncId)).D [DV.sla false 7 m, DV.int .i64 (↑i : Int)])
 (bif decide ((↑(List.filter (clB (31 : FuncId) (↑i : Int)) (List.filter (clB (29 : FuncId) t) r)).length : Int) > (0 : Int)) then
 bif
 !decide ((↑(List.filter (clB (31 : FuncId) (↑i : Int)) (List.filter (clB (29 : FuncId) t) r)).length : Int) > (0 : Int)) ==
 decide ((↑(List.filter (clB (31 : FuncId) (↑i : Int)) m).length : Int) > (0 : Int)) then
 k Ex.ret (St.of [(4, AV.d (DV.bool false))] [(115, none)])
 else
 lookK (List.filter (clB (31 : FuncId) (↑i : Int)) (List.filter (clB (29 : FuncId) t) r))[(0 : Nat)]? fun (e6 : List DV) =>
 bif
 okRow
 [DV.int .i64 0, DV.int .i64 0, DV.int .i64 0, DV.int .i64 0, DV.int .i64 0, DV.int .i64 0, DV.int .i64 0]
 e6 then
 lookK (List.filter (clB (31 : FuncId) (↑i : Int)) m)[(0 : Nat)]? fun (e9 : List DV) =>
 bif
 okRow
 [DV.int .i64 0, DV.int .i64 0, DV.int .i64 0, DV.int .i64 0, DV.int .i64 0, DV.int .i64 0, DV.int .i64 0]
 e9 then
 bif
 !((cellA e6 0).toI == (cellA e9 0).toI &&
 ((cellA e6 1).toI == (cellA e9 1).toI &&
 ((cellA e6 2).toI == (cellA e9 2).toI &&
 ((cellA e6 3).toI == (cellA e9 3).toI &&
 ((cellA e6 4).toI == (cellA e9 4).toI &&
 ((cellA e6 5).toI == (cellA e9 5).toI && (cellA e6 6).toI == (cellA e9 6).toI)))))) then
 k Ex.ret (St.of [(4, AV.d (DV.bool false))] [(115, none)])
 else
 bif decide ((↑(List.filter (clB (31 : FuncId) (↑i : Int)) (List.filter (clB (29 : FuncId) t) r)).length : Int) > (0 : Int)) then
 lookK (List.filter (clB (31 : FuncId) (↑i : Int)) (List.filter (clB (29 : FuncId) t) r))[(0 : Nat)]? fun (e14 : List DV) =>
 bif
 okRow
 [DV.int .i64 0, DV.int .i64 0, DV.int .i64 0, DV.int .i64 0, DV.int .i64 0, DV.int .i64 0, DV.int .i64 0]
 e14 then
 bif
 bif
 bif (cellA e14 4).toI == (3 : Int) then
 (↑(List.filter (clB (31 : FuncId) (↑i : Int)) m).length : Int) !=
 (↑(List.filter (clB (31 : FuncId) (↑i : Int)) (List.filter (clB (29 : FuncId) t) r)).length : Int)
 else false then
 true
 else
 bif !(cellA e14 4).toI == (3 : Int) then
 decide ((↑(List.filter (clB (31 : FuncId) (↑i : Int)) m).length : Int) > (1 : Int))
 else false then
 k Ex.ret (St.of [(4, AV.d (DV.bool false))] [(115, none)])
 else
 k Ex.nrm
 (St.of
 [(1, AV.d (DV.int .i64 t)), (5, AV.d (DV.sla false 7 r)),
 ((6 : Nat), AV.d (DV.sla false 7 m)),
 ((7 : Nat), AV.d (DV.int .i64 (IntKind.i64.wrap ((↑i : Int) + (1 : Int)))))]
 [(16, none), (19, none)])
 else none
 else
 bif decide ((↑(List.filter (clB (31 : FuncId) (↑i : Int)) m).length : Int) > (1 : Int)) then
 k Ex.ret (St.of [(4, AV.d (DV.bool false))] [(115, none)])
 else
 k Ex.nrm
 (St.of
 [(1, AV.d (DV.int .i64 t)), (5, AV.d (DV.sla false 7 r)),
 ((6 : Nat), AV.d (DV.sla false 7 m)),
 ((7 : Nat), AV.d (DV.int .i64 (IntKind.i64.wrap ((↑i : Int) + (1 : Int)))))]
 [(16, none), (19, none)])
 else none
 else none
 else
 bif
 bif
 !decide ((↑(List.filter (clB (31 : FuncId) (↑i : Int)) (List.filter (clB (29 : FuncId) t) r)).length : Int) > (0 : Int)) ==
 decide ((↑(List.filter (clB (31 : FuncId) (↑i : Int)) m).length : Int) > (0 : Int)) then
 true
 else false then
 k Ex.ret (St.of [(4, AV.d (DV.bool false))] [(115, none)])
 else
 bif decide ((↑(List.filter (clB (31 : FuncId) (↑i : Int)) (List.filter (clB (29 : FuncId) t) r)).length : Int) > (0 : Int)) then
 lookK (List.filter (clB (31 : FuncId) (↑i : Int)) (List.filter (clB (29 : FuncId) t) r))[(0 : Nat)]? fun (e14 : List DV) =>
 bif
 okRow
 [DV.int .i64 0, DV.int .i64 0, DV.int .i64 0, DV.int .i64 0, DV.int .i64 0, DV.int .i64 0, DV.int .i64 0]
 e14 then
 bif
 bif
 bif (cellA e14 4).toI == (3 : Int) then
 (↑(List.filter (clB (31 : FuncId) (↑i : Int)) m).length : Int) !=
 (↑(List.filter (clB (31 : FuncId) (↑i : Int)) (List.filter (clB (29 : FuncId) t) r)).length : Int)
 else false then
 true
 else
 bif !(cellA e14 4).toI == (3 : Int) then decide ((↑(List.filter (clB (31 : FuncId) (↑i : Int)) m).length : Int) > (1 : Int))
 else false then
 k Ex.ret (St.of [(4, AV.d (DV.bool false))] [(115, none)])
 else
 k Ex.nrm
 (St.of
 [(1, AV.d (DV.int .i64 t)), (5, AV.d (DV.sla false 7 r)),
 ((6 : Nat), AV.d (DV.sla false 7 m)), (7, AV.d (DV.int .i64 (IntKind.i64.wrap ((↑i : Int) + (1 : Int)))))]
 [(16, none), (19, none)])
 else none
 else
 bif decide ((↑(List.filter (clB (31 : FuncId) (↑i : Int)) m).length : Int) > (1 : Int)) then
 k Ex.ret (St.of [(4, AV.d (DV.bool false))] [(115, none)])
 else
 k Ex.nrm
 (St.of
 [(1, AV.d (DV.int .i64 t)), (5, AV.d (DV.sla false 7 r)), (6, AV.d (DV.sla false 7 m)),
 ((7 : Nat), AV.d (DV.int .i64 (IntKind.i64.wrap ((↑i : Int) + (1 : Int)))))]
 [(16, none), (19, none)]))))
 else
 k (Ex.ex (0 : Nat))
 (St.of [(1, AV.d (DV.int .i64 t)), (5, AV.d (DV.sla false 7 r)), (6, AV.d (DV.sla false 7 m))]
 [(16, none), (19, none)])) :=
  (show LB tab spT lQ3 L (n+4) h30 c3l0 (T30 t r m i) k =
 (cond (decide ((↑i : Int) < (3 : Int)))
 (need (FSpec.D (fltS (29 : FuncId)) [(.sla false 7 r), (.int .i64 t)])
 (need (FSpec.D (fltS (31 : FuncId)) [(.sla false 7 (List.filter (clB (29 : FuncId) t) (rowsA (DV.sla false 7 r)))), (.int .i64 ((↑i : Int)))])
 (need (FSpec.D (fltS (31 : FuncId)) [(.sla false 7 m), (.int .i64 ((↑i : Int)))])
 (cond (decide ((↑(List.filter (clB (31 : FuncId) (↑i : Int)) (rowsA (DV.sla false 7 (List.filter (clB (29 : FuncId) t) (rowsA (DV.sla false 7 r)))))).length : Int) > (0 : Int)))
 (cond (!decide ((↑(List.filter (clB (31 : FuncId) (↑i : Int)) (rowsA (DV.sla false 7 (List.filter (clB (29 : FuncId) t) (rowsA (DV.sla false 7 r)))))).length : Int) > (0 : Int)) == decide ((↑(List.filter (clB (31 : FuncId) (↑i : Int)) (rowsA (DV.sla false 7 m))).length : Int) > (0 : Int)))
 (k .ret (St.of [(4, (.d (.bool false)))] [(115, .none)]))
 (lookK ((List.filter (clB (31 : FuncId) (↑i : Int)) (rowsA (DV.sla false 7 (List.filter (clB (29 : FuncId) t) (rowsA (DV.sla false 7 r))))))[(0 : Nat)]?)
 fun e6 =>
 (cond (okRow [DV.int .i64 0, DV.int .i64 0, DV.int .i64 0, DV.int .i64 0, DV.int .i64 0, DV.int .i64 0, DV.int .i64 0] e6)
 (lookK ((List.filter (clB (31 : FuncId) (↑i : Int)) (rowsA (DV.sla false 7 m)))[(0 : Nat)]?)
 fun e9 =>
 (cond (okRow [DV.int .i64 0, DV.int .i64 0, DV.int .i64 0, DV.int .i64 0, DV.int .i64 0, DV.int .i64 0, DV.int .i64 0] e9)
 (cond (!((cellA e6 0).toI == (cellA e9 0).toI && ((cellA e6 1).toI == (cellA e9 1).toI && ((cellA e6 2).toI == (cellA e9 2).toI && ((cellA e6 3).toI == (cellA e9 3).toI && ((cellA e6 4).toI == (cellA e9 4).toI && ((cellA e6 5).toI == (cellA e9 5).toI && ((cellA e6 6).toI == (cellA e9 6).toI && true))))))))
 (k .ret (St.of [(4, (.d (.bool false)))] [(115, .none)]))
 (cond (decide ((↑(List.filter (clB (31 : FuncId) (↑i : Int)) (rowsA (DV.sla false 7 (List.filter (clB (29 : FuncId) t) (rowsA (DV.sla false 7 r)))))).length : Int) > (0 : Int)))
 (lookK ((List.filter (clB (31 : FuncId) (↑i : Int)) (rowsA (DV.sla false 7 (List.filter (clB (29 : FuncId) t) (rowsA (DV.sla false 7 r))))))[(0 : Nat)]?)
 fun e14 =>
 (cond (okRow [DV.int .i64 0, DV.int .i64 0, DV.int .i64 0, DV.int .i64 0, DV.int .i64 0, DV.int .i64 0, DV.int .i64 0] e14)
 (cond (bif bif (cellA e14 4).toI == (3 : Int) then (↑(List.filter (clB (31 : FuncId) (↑i : Int)) (rowsA (DV.sla false 7 m))).length : Int) != (↑(List.filter (clB (31 : FuncId) (↑i : Int)) (rowsA (DV.sla false 7 (List.filter (clB (29 : FuncId) t) (rowsA (DV.sla false 7 r)))))).length : Int) else false then true else bif !(cellA e14 4).toI == (3 : Int) then decide ((↑(List.filter (clB (31 : FuncId) (↑i : Int)) (rowsA (DV.sla false 7 m))).length : Int) > (1 : Int)) else false)
 (k .ret (St.of [(4, (.d (.bool false)))] [(115, .none)]))
 (k .nrm (St.of [(1, (.d (.int .i64 t))), (5, (.d (.sla false 7 r))), (6, (.d (.sla false 7 m))), (7, (.d (.int .i64 (IntKind.i64.wrap ((↑i : Int) + (1 : Int))))))] [(16, .none), (19, .none)])))
 none))
 (cond (bif !false then decide ((↑(List.filter (clB (31 : FuncId) (↑i : Int)) (rowsA (DV.sla false 7 m))).length : Int) > (1 : Int)) else false)
 (k .ret (St.of [(4, (.d (.bool false)))] [(115, .none)]))
 (k .nrm (St.of [(1, (.d (.int .i64 t))), (5, (.d (.sla false 7 r))), (6, (.d (.sla false 7 m))), (7, (.d (.int .i64 (IntKind.i64.wrap ((↑i : Int) + (1 : Int))))))] [(16, .none), (19, .none)])))))
 none))
 none)))
 (cond (bif !decide ((↑(List.filter (clB (31 : FuncId) (↑i : Int)) (rowsA (DV.sla false 7 (List.filter (clB (29 : FuncId) t) (rowsA (DV.sla false 7 r)))))).length : Int) > (0 : Int)) == decide ((↑(List.filter (clB (31 : FuncId) (↑i : Int)) (rowsA (DV.sla false 7 m))).length : Int) > (0 : Int)) then true else false)
 (k .ret (St.of [(4, (.d (.bool false)))] [(115, .none)]))
 (cond (decide ((↑(List.filter (clB (31 : FuncId) (↑i : Int)) (rowsA (DV.sla false 7 (List.filter (clB (29 : FuncId) t) (rowsA (DV.sla false 7 r)))))).length : Int) > (0 : Int)))
 (lookK ((List.filter (clB (31 : FuncId) (↑i : Int)) (rowsA (DV.sla false 7 (List.filter (clB (29 : FuncId) t) (rowsA (DV.sla false 7 r))))))[(0 : Nat)]?)
 fun e7 =>
 (cond (okRow [DV.int .i64 0, DV.int .i64 0, DV.int .i64 0, DV.int .i64 0, DV.int .i64 0, DV.int .i64 0, DV.int .i64 0] e7)
 (cond (bif bif (cellA e7 4).toI == (3 : Int) then (↑(List.filter (clB (31 : FuncId) (↑i : Int)) (rowsA (DV.sla false 7 m))).length : Int) != (↑(List.filter (clB (31 : FuncId) (↑i : Int)) (rowsA (DV.sla false 7 (List.filter (clB (29 : FuncId) t) (rowsA (DV.sla false 7 r)))))).length : Int) else false then true else bif !(cellA e7 4).toI == (3 : Int) then decide ((↑(List.filter (clB (31 : FuncId) (↑i : Int)) (rowsA (DV.sla false 7 m))).length : Int) > (1 : Int)) else false)
 (k .ret (St.of [(4, (.d (.bool false)))] [(115, .none)]))
 (k .nrm (St.of [(1, (.d (.int .i64 t))), (5, (.d (.sla false 7 r))), (6, (.d (.sla false 7 m))), (7, (.d (.int .i64 (IntKind.i64.wrap ((↑i : Int) + (1 : Int))))))] [(16, .none), (19, .none)])))
 none))
 (cond (bif !false then decide ((↑(List.filter (clB (31 : FuncId) (↑i : Int)) (rowsA (DV.sla false 7 m))).length : Int) > (1 : Int)) else false)
 (k .ret (St.of [(4, (.d (.bool false)))] [(115, .none)]))
 (k .nrm (St.of [(1, (.d (.int .i64 t))), (5, (.d (.sla false 7 r))), (6, (.d (.sla false 7 m))), (7, (.d (.int .i64 (IntKind.i64.wrap ((↑i : Int) + (1 : Int))))))] [(16, .none), (19, .none)])))))))))
 (k (.ex 0) (St.of [(1, (.d (.int .i64 t))), (5, (.d (.sla false 7 r))), (6, (.d (.sla false 7 m)))] [(16, .none), (19, .none)]))) from by kernel_rfl).trans (by first | rfl | (simp only [decide_true, decide_false, eq_self, and_true, true_and, and_self, cond_true, cond_false, Nat.le_refl, Int.le_refl, Option.getD_some, Option.getD_none, Int.toNat_natCast, List.take_length, List.drop_zero, Nat.zero_add, List.nil_append, List.all_nil, List.append_nil, Bool.true_and, Bool.and_true, rowsA_sla, rowsA_sl, rowsA_nil, minus_zero, nat_le_cast, nat_nonneg, Option.isSome_some, Option.isSome_none, Bool.false_eq_true, false_and, and_false, if_true, if_false, implies_true, Int.toNat_zero, Bool.not_false, Bool.not_true, bne_self_eq_false]; done) | (simp only [decide_true, decide_false, eq_self, and_true, true_and, and_self, cond_true, cond_false, Nat.le_refl, Int.le_refl, Option.getD_some, Option.getD_none, Int.toNat_natCast, List.take_length, List.drop_zero, Nat.zero_add, List.nil_append, List.all_nil, List.append_nil, Bool.true_and, Bool.and_true, rowsA_sla, rowsA_sl, rowsA_nil, minus_zero, nat_le_cast, nat_nonneg, Option.isSome_some, Option.isSome_none, Bool.false_eq_true, false_and, and_false, if_true, if_false, implies_true, Int.toNat_zero, Bool.not_false, Bool.not_true, bne_self_eq_false]; rfl))
theorem s31 (L n : Nat) (t : Int) (r m : List (List DV)) (i : Nat) (k : Kont) : LB tab spT lQ3 L (n+4) h31 c3l1 (T31 t r m i) k =
   (bif decide ((↑i : Int) < (↑m.length : Int)) then
 lookK m[i]? fun (e1 : List DV) =>
 bif
 okRow
 [DV.int .i64 0, DV.int .i64 0, DV.int .i64 0, DV.int .i64 0, DV.int .i64 0, DV.int .i64 0, DV.int .i64 0]
 e1 then
 need
 (rdyS.D
 [DV.agg
 [DV.int .i64 (cellA e1 0).toI, DV.int .i64 (cellA e1 1).toI, DV.int .i64 (cellA e1 2).toI, DV.int .i64 (cellA e1 3).toI, DV.int .i64 (cellA e1 4).toI, DV.int .i64 (cellA e1 5).toI, DV.int .i64 (cellA e1 6).toI], DV.int .i64 t])
 (bif decide ((↑i : Int) > (0 : Int)) then
 bif
 !rdy t
 [DV.int .i64 (cellA e1 0).toI, DV.int .i64 (cellA e1 1).toI, DV.int .i64 (cellA e1 2).toI, DV.int .i64 (cellA e1 3).toI, DV.int .i64 (cellA e1 4).toI, DV.int .i64 (cellA e1 5).toI, DV.int .i64 (cellA e1 6).toI] then
 k Ex.ret (St.of [(4, AV.d (DV.bool false))] [(115, none)])
 else
 lookK m[i]? fun (e7 : List DV) =>
 bif
 okRow
 [DV.int .i64 0, DV.int .i64 0, DV.int .i64 0, DV.int .i64 0, DV.int .i64 0, DV.int .i64 0, DV.int .i64 0]
 e7 then
 need (fndS.D [DV.sla false 7 r, DV.int .i64 (cellA e7 0).toI])
 (bif decide ((0 : Int) ≤ IntKind.i64.wrap ((↑i : Int) - (1 : Int))) then
 lookK m[(IntKind.i64.wrap ((↑i : Int) - (1 : Int))).toNat]? fun (e12 : List DV) =>
 bif
 okRow
 [DV.int .i64 0, DV.int .i64 0, DV.int .i64 0, DV.int .i64 0, DV.int .i64 0, DV.int .i64 0, DV.int .i64 0]
 e12 then
 need (fndS.D [DV.sla false 7 r, DV.int .i64 (cellA e12 0).toI])
 (bif decide (fI r (cellA e7 0).toI ≤ fI r (cellA e12 0).toI) then
 k Ex.ret (St.of [(4, AV.d (DV.bool false))] [(115, none)])
 else
 k Ex.nrm
 (St.of
 [(1, AV.d (DV.int .i64 t)), (5, AV.d (DV.sla false 7 r)),
 ((6 : Nat), AV.d (DV.sla false 7 m)),
 ((11 : Nat), AV.d (DV.int .i64 (IntKind.i64.wrap ((↑i : Int) + (1 : Int)))))]
 [(16, none), (19, none)]))
 else none
 else none)
 else none
 else
 bif
 bif
 !rdy t
 [DV.int .i64 (cellA e1 0).toI, DV.int .i64 (cellA e1 1).toI, DV.int .i64 (cellA e1 2).toI, DV.int .i64 (cellA e1 3).toI, DV.int .i64 (cellA e1 4).toI, DV.int .i64 (cellA e1 5).toI, DV.int .i64 (cellA e1 6).toI] then
 true
 else false then
 k Ex.ret (St.of [(4, AV.d (DV.bool false))] [(115, none)])
 else
 k Ex.nrm
 (St.of
 [(1, AV.d (DV.int .i64 t)), (5, AV.d (DV.sla false 7 r)), (6, AV.d (DV.sla false 7 m)),
 ((11 : Nat), AV.d (DV.int .i64 (IntKind.i64.wrap ((↑i : Int) + (1 : Int)))))]
 [(16, none), (19, none)]))
 else none
 else k (Ex.ex (2 : Nat)) (St.of [] [])) :=
  (show LB tab spT lQ3 L (n+4) h31 c3l1 (T31 t r m i) k =
 (cond (decide ((↑i : Int) < (↑m.length : Int)))
 (lookK (m[(↑i : Int).toNat]?)
 fun e1 =>
 (cond (okRow [DV.int .i64 0, DV.int .i64 0, DV.int .i64 0, DV.int .i64 0, DV.int .i64 0, DV.int .i64 0, DV.int .i64 0] e1)
 (need (FSpec.D (rdyS) [(.agg [(.int .i64 ((cellA e1 0).toI)), (.int .i64 ((cellA e1 1).toI)), (.int .i64 ((cellA e1 2).toI)), (.int .i64 ((cellA e1 3).toI)), (.int .i64 ((cellA e1 4).toI)), (.int .i64 ((cellA e1 5).toI)), (.int .i64 ((cellA e1 6).toI))]), (.int .i64 t)])
 (cond (decide ((↑i : Int) > (0 : Int)))
 (cond (!rdy t [DV.int .i64 (cellA e1 0).toI, DV.int .i64 (cellA e1 1).toI, DV.int .i64 (cellA e1 2).toI, DV.int .i64 (cellA e1 3).toI, DV.int .i64 (cellA e1 4).toI, DV.int .i64 (cellA e1 5).toI, DV.int .i64 (cellA e1 6).toI])
 (k .ret (St.of [(4, (.d (.bool false)))] [(115, .none)]))
 (lookK (m[(↑i : Int).toNat]?)
 fun e7 =>
 (cond (okRow [DV.int .i64 0, DV.int .i64 0, DV.int .i64 0, DV.int .i64 0, DV.int .i64 0, DV.int .i64 0, DV.int .i64 0] e7)
 (need (FSpec.D (fndS) [(.sla false 7 r), (.int .i64 ((cellA e7 0).toI))])
 (cond (decide ((0 : Int) ≤ IntKind.i64.wrap ((↑i : Int) - (1 : Int))))
 (lookK (m[(IntKind.i64.wrap ((↑i : Int) - (1 : Int))).toNat]?)
 fun e12 =>
 (cond (okRow [DV.int .i64 0, DV.int .i64 0, DV.int .i64 0, DV.int .i64 0, DV.int .i64 0, DV.int .i64 0, DV.int .i64 0] e12)
 (need (FSpec.D (fndS) [(.sla false 7 r), (.int .i64 ((cellA e12 0).toI))])
 (cond (decide (fI (rowsA (DV.sla false 7 r)) (cellA e7 0).toI ≤ fI (rowsA (DV.sla false 7 r)) (cellA e12 0).toI))
 (k .ret (St.of [(4, (.d (.bool false)))] [(115, .none)]))
 (k .nrm (St.of [(1, (.d (.int .i64 t))), (5, (.d (.sla false 7 r))), (6, (.d (.sla false 7 m))), (11, (.d (.int .i64 (IntKind.i64.wrap ((↑i : Int) + (1 : Int))))))] [(16, .none), (19, .none)]))))
 none))
 none))
 none)))
 (cond (bif !rdy t [DV.int .i64 (cellA e1 0).toI, DV.int .i64 (cellA e1 1).toI, DV.int .i64 (cellA e1 2).toI, DV.int .i64 (cellA e1 3).toI, DV.int .i64 (cellA e1 4).toI, DV.int .i64 (cellA e1 5).toI, DV.int .i64 (cellA e1 6).toI] then true else false)
 (k .ret (St.of [(4, (.d (.bool false)))] [(115, .none)]))
 (k .nrm (St.of [(1, (.d (.int .i64 t))), (5, (.d (.sla false 7 r))), (6, (.d (.sla false 7 m))), (11, (.d (.int .i64 (IntKind.i64.wrap ((↑i : Int) + (1 : Int))))))] [(16, .none), (19, .none)])))))
 none))
 (k (.ex 2) (St.of [] []))) from by kernel_rfl).trans (by first | rfl | (simp only [decide_true, decide_false, eq_self, and_true, true_and, and_self, cond_true, cond_false, Nat.le_refl, Int.le_refl, Option.getD_some, Option.getD_none, Int.toNat_natCast, List.take_length, List.drop_zero, Nat.zero_add, List.nil_append, List.all_nil, List.append_nil, Bool.true_and, Bool.and_true, rowsA_sla, rowsA_sl, rowsA_nil, minus_zero, nat_le_cast, nat_nonneg, Option.isSome_some, Option.isSome_none, Bool.false_eq_true, false_and, and_false, if_true, if_false, implies_true, Int.toNat_zero, Bool.not_false, Bool.not_true, bne_self_eq_false]; done) | (simp only [decide_true, decide_false, eq_self, and_true, true_and, and_self, cond_true, cond_false, Nat.le_refl, Int.le_refl, Option.getD_some, Option.getD_none, Int.toNat_natCast, List.take_length, List.drop_zero, Nat.zero_add, List.nil_append, List.all_nil, List.append_nil, Bool.true_and, Bool.and_true, rowsA_sla, rowsA_sl, rowsA_nil, minus_zero, nat_le_cast, nat_nonneg, Option.isSome_some, Option.isSome_none, Bool.false_eq_true, false_and, and_false, if_true, if_false, implies_true, Int.toNat_zero, Bool.not_false, Bool.not_true, bne_self_eq_false]; rfl))
theorem t3 (n : Nat) (l : List (List DV)) (t : Int) : FK tab spT lQ3 20 (n+8) 3 [.sla false 7 l, .int .i64 t] =
   (bif decide ((↑l.length : Int) > (40 : Int)) then some (DV.bool true)
 else
 need (rowS.D [DV.sla false 7 l])
 (need ((mayS decM).D [DV.sla false 7 (rowL l), DV.int .i64 t])
 (need
 (LoopOk (LB tab spT lQ3 (20 : Nat) (n + (8 : Nat)) h30 c3l0)
 (St.of
 [(1, AV.d (DV.int .i64 t)), (5, AV.d (DV.sla false 7 (rowL l))),
 ((6 : Nat),
 AV.d
 (DV.sla false 7
 (outN (List.filter (clB (29 : FuncId) t) (rowL l)).length (decM (List.filter (clB (29 : FuncId) t) (rowL l)))
 (rowP (List.filter (clB (29 : FuncId) t) (rowL l)))))),
 ((7 : Nat), AV.d (DV.int .i64 0))]
 [(16, none), (19, none)])
 (Ex.ex (0 : Nat),
 St.of
 [(1, AV.d (DV.int .i64 t)), (5, AV.d (DV.sla false 7 (rowL l))),
 ((6 : Nat),
 AV.d
 (DV.sla false 7
 (outN (List.filter (clB (29 : FuncId) t) (rowL l)).length (decM (List.filter (clB (29 : FuncId) t) (rowL l)))
 (rowP (List.filter (clB (29 : FuncId) t) (rowL l))))))]
 [(16, none), (19, none)]))
 (need
 (LoopOk (LB tab spT lQ3 (20 : Nat) (n + (8 : Nat)) h31 c3l1)
 (St.of
 [(1, AV.d (DV.int .i64 t)), (5, AV.d (DV.sla false 7 (rowL l))),
 ((6 : Nat),
 AV.d
 (DV.sla false 7
 (outN (List.filter (clB (29 : FuncId) t) (rowL l)).length (decM (List.filter (clB (29 : FuncId) t) (rowL l)))
 (rowP (List.filter (clB (29 : FuncId) t) (rowL l)))))),
 ((11 : Nat), AV.d (DV.int .i64 0))]
 [(16, none), (19, none)])
 (Ex.ex (2 : Nat), St.of [] []))
 (need (knoS.D []) (some (DV.bool true))))))) :=
  (show FK tab spT lQ3 20 (n+8) 3 [.sla false 7 l, .int .i64 t] =
 (cond (decide ((↑l.length : Int) > (40 : Int)))
 (some (.bool true))
 (need (FSpec.D (rowS) [(.sla false 7 l)])
 (need (FSpec.D (mayS decM) [(.sla false 7 (rowL (rowsA (DV.sla false 7 l)))), (.int .i64 t)])
 (need (LoopOk (LB tab spT lQ3 ((20 : Nat)) (n + (8 : Nat)) h30 c3l0) (St.of [(1, (.d (.int .i64 t))), (5, (.d (.sla false 7 (rowL (rowsA (DV.sla false 7 l)))))), (6, (.d (.sla false 7 (outN (List.filter (clB (29 : FuncId) t) (rowsA (DV.sla false 7 (rowL (rowsA (DV.sla false 7 l)))))).length (decM (List.filter (clB (29 : FuncId) t) (rowsA (DV.sla false 7 (rowL (rowsA (DV.sla false 7 l))))))) (rowP (List.filter (clB (29 : FuncId) t) (rowsA (DV.sla false 7 (rowL (rowsA (DV.sla false 7 l))))))))))), (7, (.d (.int .i64 ((0 : Int)))))] [(16, .none), (19, .none)]) ((.ex 0), (St.of [(1, (.d (.int .i64 t))), (5, (.d (.sla false 7 (rowL (rowsA (DV.sla false 7 l)))))), (6, (.d (.sla false 7 (outN (List.filter (clB (29 : FuncId) t) (rowsA (DV.sla false 7 (rowL (rowsA (DV.sla false 7 l)))))).length (decM (List.filter (clB (29 : FuncId) t) (rowsA (DV.sla false 7 (rowL (rowsA (DV.sla false 7 l))))))) (rowP (List.filter (clB (29 : FuncId) t) (rowsA (DV.sla false 7 (rowL (rowsA (DV.sla false 7 l)))))))))))] [(16, .none), (19, .none)])))
 (need (LoopOk (LB tab spT lQ3 ((20 : Nat)) (n + (8 : Nat)) h31 c3l1) (St.of [(1, (.d (.int .i64 t))), (5, (.d (.sla false 7 (rowL (rowsA (DV.sla false 7 l)))))), (6, (.d (.sla false 7 (outN (List.filter (clB (29 : FuncId) t) (rowsA (DV.sla false 7 (rowL (rowsA (DV.sla false 7 l)))))).length (decM (List.filter (clB (29 : FuncId) t) (rowsA (DV.sla false 7 (rowL (rowsA (DV.sla false 7 l))))))) (rowP (List.filter (clB (29 : FuncId) t) (rowsA (DV.sla false 7 (rowL (rowsA (DV.sla false 7 l))))))))))), (11, (.d (.int .i64 ((0 : Int)))))] [(16, .none), (19, .none)]) ((.ex 2), (St.of [] [])))
 (need (FSpec.D (knoS) [])
 (some (.bool true)))))))) from by kernel_rfl).trans (by first | rfl | (simp only [decide_true, decide_false, eq_self, and_true, true_and, and_self, cond_true, cond_false, Nat.le_refl, Int.le_refl, Option.getD_some, Option.getD_none, Int.toNat_natCast, List.take_length, List.drop_zero, Nat.zero_add, List.nil_append, List.all_nil, List.append_nil, Bool.true_and, Bool.and_true, rowsA_sla, rowsA_sl, rowsA_nil, minus_zero, nat_le_cast, nat_nonneg, Option.isSome_some, Option.isSome_none, Bool.false_eq_true, false_and, and_false, if_true, if_false, implies_true, Int.toNat_zero, Bool.not_false, Bool.not_true, bne_self_eq_false]; done) | (simp only [decide_true, decide_false, eq_self, and_true, true_and, and_self, cond_true, cond_false, Nat.le_refl, Int.le_refl, Option.getD_some, Option.getD_none, Int.toNat_natCast, List.take_length, List.drop_zero, Nat.zero_add, List.nil_append, List.all_nil, List.append_nil, Bool.true_and, Bool.and_true, rowsA_sla, rowsA_sl, rowsA_nil, minus_zero, nat_le_cast, nat_nonneg, Option.isSome_some, Option.isSome_none, Bool.false_eq_true, false_and, and_false, if_true, if_false, implies_true, Int.toNat_zero, Bool.not_false, Bool.not_true, bne_self_eq_false]; rfl))
theorem spT_ok : ∀ f s, spT f = some s → s.ok Try.prog f := spAdd_ok row7 (spAdd_ok may8S (spAdd_ok rdy10 (spAdd_ok of9 (spAdd_ok rdy11 (spAdd_ok fnd26 (spAdd_ok known13 noSp_ok))))))
theorem row_at {l : List (List DV)} (hz : ∀ e ∈ l, okRow z7 e = true) {n : Nat} (hn : n < l.length) : rowP l n = l[n] := by
  rw [rowP_at hn]
  obtain ⟨a0, a1, a2, a3, a4, a5, a6, he⟩ := okRow_p (hz _ (List.getElem_mem hn))
  rw [he]
  rfl
theorem take1_snoc (F : List (List DV)) (e : List DV) : (F ++ [e]).take 1 = F.take 1 ++ cond F.isEmpty [e] [] := by
  cases F with
  | nil => rfl
  | cons a t => simp
/-- what may go of one: all, if all are plain; the first, else -/
theorem mfil {R : List (List DV)} (hz : ∀ e ∈ R, okRow z7 e = true) (f : Int) : (outN R.length (decM R) (rowP R)).filter (clB 31 f) = cond ((R.filter (clB 31 f)).all nrB) (R.filter (clB 31 f)) ((R.filter (clB 31 f)).take 1) := by
  have key : ∀ n, n ≤ R.length → (outN n (decM R) (rowP R)).filter (clB 31 f) = cond ((R.filter (clB 31 f)).all nrB) ((R.take n).filter (clB 31 f)) (((R.take n).filter (clB 31 f)).take 1) := by
    intro n
    induction n with
    | zero => intro _; cases (R.filter (clB 31 f)).all nrB <;> simp [outN]
    | succ n ih =>
      intro hn
      have hlt : n < R.length := by omega
      have hcl : clB 31 f R[n] = (frm R[n] == f) := rfl
      have htk : R.take (n + 1) = R.take n ++ [R[n]] := by rw [List.take_add_one, List.getElem?_eq_getElem hlt, Option.toList_some]
      rw [outN_succ, List.filter_append, ih (by omega), htk, List.filter_append, row_at hz hlt]
      by_cases hf : frm R[n] = f
      · have hp : clB 31 f R[n] = true := by rw [hcl, hf]; exact beq_self_eq_true _
        have hd : decM R n = (((R.take n).filter (clB 31 f)).isEmpty || (R.filter (clB 31 f)).all nrB) := by
          unfold decM
          rw [gd hlt, ← all_plain R (List.getElem_mem hlt), hf]
          congr 1
          unfold seenB
          cases hF : (R.take n).filter (clB 31 f) with
          | nil =>
            rw [show (R.take n).any (fun e => frm e == f) = false from List.any_eq_false.2 fun a ha h => List.filter_eq_nil_iff.1 hF a ha h]
            rfl
          | cons x xs =>
            have hx : x ∈ (R.take n).filter (clB 31 f) := by rw [hF]; exact List.mem_cons_self ..
            obtain ⟨hx1, hx2⟩ := List.mem_filter.1 hx
            rw [show (R.take n).any (fun e => frm e == f) = true from List.any_eq_true.2 ⟨x, hx1, hx2⟩]
            rfl
        have h1 : [R[n]].filter (clB 31 f) = [R[n]] := by rw [List.filter_cons, if_pos hp]; rfl
        rw [hd, h1, take1_snoc]
        generalize (R.take n).filter (clB 31 f) = F
        cases (R.filter (clB 31 f)).all nrB with
        | true => rw [Bool.or_true, cond_true, cond_true, cond_true, h1]
        | false =>
          rw [Bool.or_false, cond_false, cond_false]
          cases F.isEmpty with
          | true => rw [cond_true, h1]
          | false => rfl
      · have hp : ¬ clB 31 f R[n] = true := by rw [hcl]; simp [hf]
        rw [show [R[n]].filter (clB 31 f) = [] by rw [List.filter_cons, if_neg hp]; rfl, List.append_nil]
        cases decM R n with
        | true => rw [cond_true, List.filter_cons, if_neg hp]; simp
        | false => rw [cond_false]; simp
  have := key R.length (Nat.le_refl _)
  rwa [List.take_length] at this
theorem outN_sub {R : List (List DV)} (hz : ∀ e ∈ R, okRow z7 e = true) (P : Nat → Bool) : (outN R.length P (rowP R)).Sublist R := by
  have key : ∀ n, n ≤ R.length → (outN n P (rowP R)).Sublist (R.take n) := by
    intro n
    induction n with
    | zero => intro _; simp [outN]
    | succ n ih =>
      intro hn
      have hlt : n < R.length := by omega
      rw [outN_succ, List.take_add_one, List.getElem?_eq_getElem hlt, Option.toList_some, row_at hz hlt]
      refine (ih (by omega)).append ?_
      cases P n
      · exact List.nil_sublist _
      · exact List.Sublist.refl _
  have := key R.length (Nat.le_refl _)
  rwa [List.take_length] at this
theorem find_up {r : List (List DV)} (hn : ND r) : r.Pairwise fun a b => fI r (idO a) < fI r (idO b) := by
  rw [List.pairwise_iff_getElem]
  intro i j hi hj hij
  rw [nd_fI hn i hi, nd_fI hn j hj]
  omega
end Go.Proofs.Ytjejjokdbbedlaa
