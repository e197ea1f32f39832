/- RowOrder: the run of the statement, and its loop; one put in at a place, by plain law. No condition. -/
import Derived.Test.YtngghbloijkfoaaRm
namespace Go.Proofs.Ytngghbloijkfoaa
open Go Go.Proofs Go.RowKit Vm
set_option linter.unusedVariables false
set_option linter.unusedSimpArgs false
noncomputable def spO7 : FuncId → Option FSpec := spAdd 28 frnS (spAdd 29 bakS spM7)
def l90 : LSpec := fun st => .one (.ex 0) (St.of [] [])
def l9 (k : Nat) : Option LSpec := if k = 90 then some l90 else none
def S9 (b : Bool) (a0 a1 a2 a3 a4 a5 a6 : Int) (m : List (List DV)) (j i : Int) : St := St.of [(2, .d (.bool b)), (7, .ptr 7 7 0 0), (8, .d (.sla false 7 m)), (16, .d (.int .i64 j)), (17, .d (.int .i64 i))] [(43, none), (51, none), (95, none), (7, some (.dat 38 7 [[.int .i64 a0, .int .i64 a1, .int .i64 a2, .int .i64 a3, .int .i64 a4, .int .i64 a5, .int .i64 a6]]))]
theorem s90 (L n : Nat) (b : Bool) (a0 a1 a2 a3 a4 a5 a6 : Int) (m : List (List DV)) (j i : Nat) (k : Kont) : LB tab spO7 l9 L (n+4) h90 c9l0 (S9 b a0 a1 a2 a3 a4 a5 a6 m j i) k =
   (bif decide ((↑i : Int) < (↑m.length : Int)) then
 bif (↑i : Int) != (↑j : Int) then
 lookK m[i]? fun (e2 : List DV) =>
 bif
 okRow
 [DV.int .i64 0, DV.int .i64 0, DV.int .i64 0, DV.int .i64 0, DV.int .i64 0, DV.int .i64 0, DV.int .i64 0]
 e2 then
 bif (cellA e2 1).toI == a1 then
 lookK m[i]? fun (e6 : List DV) =>
 bif
 okRow
 [DV.int .i64 0, DV.int .i64 0, DV.int .i64 0, DV.int .i64 0, DV.int .i64 0, DV.int .i64 0, DV.int .i64 0]
 e6 then
 bif bif (cellA e6 4).toI == a4 then !decide ((↑i : Int) < (↑j : Int)) == b else false then
 k Ex.ret (St.of [(6, AV.d (DV.bool false))] [(132, none)])
 else
 k Ex.nrm
 (St.of
 [(2, AV.d (DV.bool b)), (7, AV.ptr 7 7 0 0), (8, AV.d (DV.sla false 7 m)),
 ((16 : Nat), AV.d (DV.int .i64 (↑j : Int))), (17, AV.d (DV.int .i64 (IntKind.i64.wrap ((↑i : Int) + (1 : Int)))))]
 [(43, none), (51, none), (95, none),
 ((7 : Nat),
 some
 (Ob.dat 38 7
 [[DV.int .i64 a0, DV.int .i64 a1, DV.int .i64 a2, DV.int .i64 a3, DV.int .i64 a4, DV.int .i64 a5, DV.int .i64 a6]]))])
 else none
 else
 k Ex.nrm
 (St.of
 [(2, AV.d (DV.bool b)), (7, AV.ptr 7 7 0 0), (8, AV.d (DV.sla false 7 m)),
 ((16 : Nat), AV.d (DV.int .i64 (↑j : Int))), (17, AV.d (DV.int .i64 (IntKind.i64.wrap ((↑i : Int) + (1 : Int)))))]
 [(43, none), (51, none), (95, none),
 ((7 : Nat),
 some
 (Ob.dat 38 7
 [[DV.int .i64 a0, DV.int .i64 a1, DV.int .i64 a2, DV.int .i64 a3, DV.int .i64 a4, DV.int .i64 a5, DV.int .i64 a6]]))])
 else none
 else
 k Ex.nrm
 (St.of
 [(2, AV.d (DV.bool b)), (7, AV.ptr 7 7 0 0), (8, AV.d (DV.sla false 7 m)),
 ((16 : Nat), AV.d (DV.int .i64 (↑j : Int))), (17, AV.d (DV.int .i64 (IntKind.i64.wrap ((↑i : Int) + (1 : Int)))))]
 [(43, none), (51, none), (95, none),
 ((7 : Nat),
 some
 (Ob.dat 38 7
 [[DV.int .i64 a0, DV.int .i64 a1, DV.int .i64 a2, DV.int .i64 a3, DV.int .i64 a4, DV.int .i64 a5, DV.int .i64 a6]]))])
 else k (Ex.ex (0 : Nat)) (St.of [] [])) :=
  (show LB tab spO7 l9 L (n+4) h90 c9l0 (S9 b a0 a1 a2 a3 a4 a5 a6 m j i) k =
 (cond (decide ((↑i : Int) < (↑m.length : Int)))
 (cond ((↑i : Int) != (↑j : Int))
 (lookK (m[(↑i : Int).toNat]?)
 fun e2 =>
 (cond (okRow [DV.int .i64 0, DV.int .i64 0, DV.int .i64 0, DV.int .i64 0, DV.int .i64 0, DV.int .i64 0, DV.int .i64 0] e2)
 (cond ((cellA e2 1).toI == a1)
 (lookK (m[(↑i : Int).toNat]?)
 fun e6 =>
 (cond (okRow [DV.int .i64 0, DV.int .i64 0, DV.int .i64 0, DV.int .i64 0, DV.int .i64 0, DV.int .i64 0, DV.int .i64 0] e6)
 (cond (bif (cellA e6 4).toI == a4 then !decide ((↑i : Int) < (↑j : Int)) == b else false)
 (k .ret (St.of [(6, (.d (.bool false)))] [(132, .none)]))
 (k .nrm (St.of [(2, (.d (.bool b))), (7, (.ptr 7 7 0 0)), (8, (.d (.sla false 7 m))), (16, (.d (.int .i64 ((↑j : Int))))), (17, (.d (.int .i64 (IntKind.i64.wrap ((↑i : Int) + (1 : Int))))))] [(43, .none), (51, .none), (95, .none), (7, (.some (.dat 38 7 [[(.int .i64 a0), (.int .i64 a1), (.int .i64 a2), (.int .i64 a3), (.int .i64 a4), (.int .i64 a5), (.int .i64 a6)]])))])))
 none))
 (k .nrm (St.of [(2, (.d (.bool b))), (7, (.ptr 7 7 0 0)), (8, (.d (.sla false 7 m))), (16, (.d (.int .i64 ((↑j : Int))))), (17, (.d (.int .i64 (IntKind.i64.wrap ((↑i : Int) + (1 : Int))))))] [(43, .none), (51, .none), (95, .none), (7, (.some (.dat 38 7 [[(.int .i64 a0), (.int .i64 a1), (.int .i64 a2), (.int .i64 a3), (.int .i64 a4), (.int .i64 a5), (.int .i64 a6)]])))])))
 none))
 (k .nrm (St.of [(2, (.d (.bool b))), (7, (.ptr 7 7 0 0)), (8, (.d (.sla false 7 m))), (16, (.d (.int .i64 ((↑j : Int))))), (17, (.d (.int .i64 (IntKind.i64.wrap ((↑i : Int) + (1 : Int))))))] [(43, .none), (51, .none), (95, .none), (7, (.some (.dat 38 7 [[(.int .i64 a0), (.int .i64 a1), (.int .i64 a2), (.int .i64 a3), (.int .i64 a4), (.int .i64 a5), (.int .i64 a6)]])))])))
 (k (.ex 0) (St.of [] []))) from by kernel_rfl).trans (by first | rfl | (simp only [decide_true, decide_false, eq_self, and_true, true_and, and_self, cond_true, cond_false, Nat.le_refl, Int.le_refl, Option.getD_some, Option.getD_none, Int.toNat_natCast, List.take_length, List.drop_zero, Nat.zero_add, List.nil_append, List.all_nil, List.append_nil, Bool.true_and, Bool.and_true, rowsA_sla, rowsA_sl, rowsA_nil, minus_zero, nat_le_cast, nat_nonneg, Option.isSome_some, Option.isSome_none, Bool.false_eq_true, false_and, and_false, if_true, if_false, implies_true, Int.toNat_zero, Bool.not_false, Bool.not_true, bne_self_eq_false]; done) | (simp only [decide_true, decide_false, eq_self, and_true, true_and, and_self, cond_true, cond_false, Nat.le_refl, Int.le_refl, Option.getD_some, Option.getD_none, Int.toNat_natCast, List.take_length, List.drop_zero, Nat.zero_add, List.nil_append, List.all_nil, List.append_nil, Bool.true_and, Bool.and_true, rowsA_sla, rowsA_sl, rowsA_nil, minus_zero, nat_le_cast, nat_nonneg, Option.isSome_some, Option.isSome_none, Bool.false_eq_true, false_and, and_false, if_true, if_false, implies_true, Int.toNat_zero, Bool.not_false, Bool.not_true, bne_self_eq_false]; rfl))
theorem t9 (L n : Nat) (es : List (List DV)) (w : Int) (b : Bool) : FK tab spO7 l9 L (n+8) 9 [.sla false 7 es, .int .i64 w, .bool b] =
   (bif bif decide ((↑es.length : Int) < (1 : Int)) then true else decide ((↑es.length : Int) > (40 : Int)) then some (DV.bool true)
 else
 need (isPS.D [DV.sla false 7 es])
 (bif !isP es then some (DV.bool true)
 else
 bif decide ((↑es.length : Int) = (0 : Int)) then none
 else
 bif
 decide
 ((0 : Int) ≤
 (IntKind.i64.wrap (↑(BitVec.ofInt IntKind.i64.bits w &&& BitVec.ofInt IntKind.i64.bits (65535 : Int)).toNat : Int)).tmod
 (↑es.length : Int)) then
 lookK
 es[((IntKind.i64.wrap (↑(BitVec.ofInt IntKind.i64.bits w &&& BitVec.ofInt IntKind.i64.bits (65535 : Int)).toNat : Int)).tmod
 (↑es.length : Int)).toNat]?
 fun (e5 : List DV) =>
 bif
 okRow
 [DV.int .i64 0, DV.int .i64 0, DV.int .i64 0, DV.int .i64 0, DV.int .i64 0, DV.int .i64 0, DV.int .i64 0]
 e5 then
 need (frnS.D [DV.sla false 7 es, DV.int .i64 (cellA e5 0).toI])
 (bif b then
 need (bakS.D [DV.sla false 7 es, DV.int .i64 (cellA e5 0).toI])
 (bif
 bif bakE es (cellA e5 0).toI != (0 : Int) then true
 else (↑(bakL es (cellA e5 0).toI).length : Int) != (↑es.length : Int) then
 some (DV.bool false)
 else
 need (isPS.D [DV.sla false 7 (bakL es (cellA e5 0).toI)])
 (bif !isP (bakL es (cellA e5 0).toI) then some (DV.bool false)
 else
 need (drpS.D [DV.sla false 7 es, DV.int .i64 (cellA e5 0).toI])
 (need (drpS.D [DV.sla false 7 (bakL es (cellA e5 0).toI), DV.int .i64 (cellA e5 0).toI])
 (bif dropE (bakL es (cellA e5 0).toI) (cellA e5 0).toI != (0 : Int) then some (DV.bool false)
 else
 need
 (samP.D
 [DV.sla false 7 (dropL es (cellA e5 0).toI),
 DV.sla false 7 (dropL (bakL es (cellA e5 0).toI) (cellA e5 0).toI)])
 (bif !sameP (dropL es (cellA e5 0).toI) (dropL (bakL es (cellA e5 0).toI) (cellA e5 0).toI) then
 some (DV.bool false)
 else
 need (fndS.D [DV.sla false 7 (bakL es (cellA e5 0).toI), DV.int .i64 (cellA e5 0).toI])
 (need
 (LoopOk (LB tab spO7 l9 L (n + (8 : Nat)) h90 c9l0)
 (St.of
 [(2, AV.d (DV.bool b)), (7, AV.ptr 7 7 0 0),
 ((8 : Nat), AV.d (DV.sla false 7 (bakL es (cellA e5 0).toI))),
 ((16 : Nat), AV.d (DV.int .i64 (fI (bakL es (cellA e5 0).toI) (cellA e5 0).toI))),
 ((17 : Nat), AV.d (DV.int .i64 0))]
 [(43, none), (51, none), (95, none),
 ((7 : Nat),
 some
 (Ob.dat 38 7
 [[DV.int .i64 (cellA e5 0).toI, DV.int .i64 (cellA e5 1).toI, DV.int .i64 (cellA e5 2).toI, DV.int .i64 (cellA e5 3).toI, DV.int .i64 (cellA e5 4).toI, DV.int .i64 (cellA e5 5).toI, DV.int .i64 (cellA e5 6).toI]]))])
 (Ex.ex (0 : Nat), St.of [] []))
 (need (kno7.D []) (some (DV.bool true)))))))))
 else
 bif
 bif frnE es (cellA e5 0).toI != (0 : Int) then true
 else (↑(frnL es (cellA e5 0).toI).length : Int) != (↑es.length : Int) then
 some (DV.bool false)
 else
 need (isPS.D [DV.sla false 7 (frnL es (cellA e5 0).toI)])
 (bif !isP (frnL es (cellA e5 0).toI) then some (DV.bool false)
 else
 need (drpS.D [DV.sla false 7 es, DV.int .i64 (cellA e5 0).toI])
 (need (drpS.D [DV.sla false 7 (frnL es (cellA e5 0).toI), DV.int .i64 (cellA e5 0).toI])
 (bif dropE (frnL es (cellA e5 0).toI) (cellA e5 0).toI != (0 : Int) then some (DV.bool false)
 else
 need
 (samP.D
 [DV.sla false 7 (dropL es (cellA e5 0).toI),
 DV.sla false 7 (dropL (frnL es (cellA e5 0).toI) (cellA e5 0).toI)])
 (bif !sameP (dropL es (cellA e5 0).toI) (dropL (frnL es (cellA e5 0).toI) (cellA e5 0).toI) then
 some (DV.bool false)
 else
 need (fndS.D [DV.sla false 7 (frnL es (cellA e5 0).toI), DV.int .i64 (cellA e5 0).toI])
 (need
 (LoopOk (LB tab spO7 l9 L (n + (8 : Nat)) h90 c9l0)
 (St.of
 [(2, AV.d (DV.bool b)), (7, AV.ptr 7 7 0 0),
 ((8 : Nat), AV.d (DV.sla false 7 (frnL es (cellA e5 0).toI))),
 ((16 : Nat), AV.d (DV.int .i64 (fI (frnL es (cellA e5 0).toI) (cellA e5 0).toI))),
 ((17 : Nat), AV.d (DV.int .i64 0))]
 [(43, none), (51, none), (95, none),
 ((7 : Nat),
 some
 (Ob.dat 38 7
 [[DV.int .i64 (cellA e5 0).toI, DV.int .i64 (cellA e5 1).toI, DV.int .i64 (cellA e5 2).toI, DV.int .i64 (cellA e5 3).toI, DV.int .i64 (cellA e5 4).toI, DV.int .i64 (cellA e5 5).toI, DV.int .i64 (cellA e5 6).toI]]))])
 (Ex.ex (0 : Nat), St.of [] []))
 (need (kno7.D []) (some (DV.bool true)))))))))
 else none
 else none)) :=
  (show FK tab spO7 l9 L (n+8) 9 [.sla false 7 es, .int .i64 w, .bool b] =
 (cond (bif decide ((↑es.length : Int) < (1 : Int)) then true else decide ((↑es.length : Int) > (40 : Int)))
 (some (.bool true))
 (need (FSpec.D (isPS) [(.sla false 7 es)])
 (cond (!isP (rowsA (DV.sla false 7 es)))
 (some (.bool true))
 (cond (decide ((↑es.length : Int) = (0 : Int)))
 none
 (cond (decide ((0 : Int) ≤ (IntKind.i64.wrap (↑(BitVec.ofInt IntKind.i64.bits w &&& BitVec.ofInt IntKind.i64.bits (65535 : Int)).toNat : Int)).tmod (↑es.length : Int)))
 (lookK (es[((IntKind.i64.wrap (↑(BitVec.ofInt IntKind.i64.bits w &&& BitVec.ofInt IntKind.i64.bits (65535 : Int)).toNat : Int)).tmod (↑es.length : Int)).toNat]?)
 fun e5 =>
 (cond (okRow [DV.int .i64 0, DV.int .i64 0, DV.int .i64 0, DV.int .i64 0, DV.int .i64 0, DV.int .i64 0, DV.int .i64 0] e5)
 (need (FSpec.D (frnS) [(.sla false 7 es), (.int .i64 ((cellA e5 0).toI))])
 (cond (b)
 (need (FSpec.D (bakS) [(.sla false 7 es), (.int .i64 ((cellA e5 0).toI))])
 (cond (bif bakE (rowsA (DV.sla false 7 es)) (cellA e5 0).toI != (0 : Int) then true else (↑(bakL (rowsA (DV.sla false 7 es)) (cellA e5 0).toI).length : Int) != (↑es.length : Int))
 (some (.bool false))
 (need (FSpec.D (isPS) [(.sla false 7 (bakL (rowsA (DV.sla false 7 es)) (cellA e5 0).toI))])
 (cond (!isP (rowsA (DV.sla false 7 (bakL (rowsA (DV.sla false 7 es)) (cellA e5 0).toI))))
 (some (.bool false))
 (need (FSpec.D (drpS) [(.sla false 7 es), (.int .i64 ((cellA e5 0).toI))])
 (need (FSpec.D (drpS) [(.sla false 7 (bakL (rowsA (DV.sla false 7 es)) (cellA e5 0).toI)), (.int .i64 ((cellA e5 0).toI))])
 (cond (dropE (rowsA (DV.sla false 7 (bakL (rowsA (DV.sla false 7 es)) (cellA e5 0).toI))) (cellA e5 0).toI != (0 : Int))
 (some (.bool false))
 (need (FSpec.D (samP) [(.sla false 7 (dropL (rowsA (DV.sla false 7 es)) (cellA e5 0).toI)), (.sla false 7 (dropL (rowsA (DV.sla false 7 (bakL (rowsA (DV.sla false 7 es)) (cellA e5 0).toI))) (cellA e5 0).toI))])
 (cond (!sameP (rowsA (DV.sla false 7 (dropL (rowsA (DV.sla false 7 es)) (cellA e5 0).toI))) (rowsA (DV.sla false 7 (dropL (rowsA (DV.sla false 7 (bakL (rowsA (DV.sla false 7 es)) (cellA e5 0).toI))) (cellA e5 0).toI))))
 (some (.bool false))
 (need (FSpec.D (fndS) [(.sla false 7 (bakL (rowsA (DV.sla false 7 es)) (cellA e5 0).toI)), (.int .i64 ((cellA e5 0).toI))])
 (need (LoopOk (LB tab spO7 l9 L (n + (8 : Nat)) h90 c9l0) (St.of [(2, (.d (.bool b))), (7, (.ptr 7 7 0 0)), (8, (.d (.sla false 7 (bakL (rowsA (DV.sla false 7 es)) (cellA e5 0).toI)))), (16, (.d (.int .i64 (fI (rowsA (DV.sla false 7 (bakL (rowsA (DV.sla false 7 es)) (cellA e5 0).toI))) (cellA e5 0).toI)))), (17, (.d (.int .i64 ((0 : Int)))))] [(43, .none), (51, .none), (95, .none), (7, (.some (.dat 38 7 [[(.int .i64 ((cellA e5 0).toI)), (.int .i64 ((cellA e5 1).toI)), (.int .i64 ((cellA e5 2).toI)), (.int .i64 ((cellA e5 3).toI)), (.int .i64 ((cellA e5 4).toI)), (.int .i64 ((cellA e5 5).toI)), (.int .i64 ((cellA e5 6).toI))]])))]) ((.ex 0), (St.of [] [])))
 (need (FSpec.D (kno7) [])
 (some (.bool true))))))))))))))
 (cond (bif frnE (rowsA (DV.sla false 7 es)) (cellA e5 0).toI != (0 : Int) then true else (↑(frnL (rowsA (DV.sla false 7 es)) (cellA e5 0).toI).length : Int) != (↑es.length : Int))
 (some (.bool false))
 (need (FSpec.D (isPS) [(.sla false 7 (frnL (rowsA (DV.sla false 7 es)) (cellA e5 0).toI))])
 (cond (!isP (rowsA (DV.sla false 7 (frnL (rowsA (DV.sla false 7 es)) (cellA e5 0).toI))))
 (some (.bool false))
 (need (FSpec.D (drpS) [(.sla false 7 es), (.int .i64 ((cellA e5 0).toI))])
 (need (FSpec.D (drpS) [(.sla false 7 (frnL (rowsA (DV.sla false 7 es)) (cellA e5 0).toI)), (.int .i64 ((cellA e5 0).toI))])
 (cond (dropE (rowsA (DV.sla false 7 (frnL (rowsA (DV.sla false 7 es)) (cellA e5 0).toI))) (cellA e5 0).toI != (0 : Int))
 (some (.bool false))
 (need (FSpec.D (samP) [(.sla false 7 (dropL (rowsA (DV.sla false 7 es)) (cellA e5 0).toI)), (.sla false 7 (dropL (rowsA (DV.sla false 7 (frnL (rowsA (DV.sla false 7 es)) (cellA e5 0).toI))) (cellA e5 0).toI))])
 (cond (!sameP (rowsA (DV.sla false 7 (dropL (rowsA (DV.sla false 7 es)) (cellA e5 0).toI))) (rowsA (DV.sla false 7 (dropL (rowsA (DV.sla false 7 (frnL (rowsA (DV.sla false 7 es)) (cellA e5 0).toI))) (cellA e5 0).toI))))
 (some (.bool false))
 (need (FSpec.D (fndS) [(.sla false 7 (frnL (rowsA (DV.sla false 7 es)) (cellA e5 0).toI)), (.int .i64 ((cellA e5 0).toI))])
 (need (LoopOk (LB tab spO7 l9 L (n + (8 : Nat)) h90 c9l0) (St.of [(2, (.d (.bool b))), (7, (.ptr 7 7 0 0)), (8, (.d (.sla false 7 (frnL (rowsA (DV.sla false 7 es)) (cellA e5 0).toI)))), (16, (.d (.int .i64 (fI (rowsA (DV.sla false 7 (frnL (rowsA (DV.sla false 7 es)) (cellA e5 0).toI))) (cellA e5 0).toI)))), (17, (.d (.int .i64 ((0 : Int)))))] [(43, .none), (51, .none), (95, .none), (7, (.some (.dat 38 7 [[(.int .i64 ((cellA e5 0).toI)), (.int .i64 ((cellA e5 1).toI)), (.int .i64 ((cellA e5 2).toI)), (.int .i64 ((cellA e5 3).toI)), (.int .i64 ((cellA e5 4).toI)), (.int .i64 ((cellA e5 5).toI)), (.int .i64 ((cellA e5 6).toI))]])))]) ((.ex 0), (St.of [] [])))
 (need (FSpec.D (kno7) [])
 (some (.bool true)))))))))))))))
 none))
 none))))) from by kernel_rfl).trans (by first | rfl | (simp only [decide_true, decide_false, eq_self, and_true, true_and, and_self, cond_true, cond_false, Nat.le_refl, Int.le_refl, Option.getD_some, Option.getD_none, Int.toNat_natCast, List.take_length, List.drop_zero, Nat.zero_add, List.nil_append, List.all_nil, List.append_nil, Bool.true_and, Bool.and_true, rowsA_sla, rowsA_sl, rowsA_nil, minus_zero, nat_le_cast, nat_nonneg, Option.isSome_some, Option.isSome_none, Bool.false_eq_true, false_and, and_false, if_true, if_false, implies_true, Int.toNat_zero, Bool.not_false, Bool.not_true, bne_self_eq_false]; done) | (simp only [decide_true, decide_false, eq_self, and_true, true_and, and_self, cond_true, cond_false, Nat.le_refl, Int.le_refl, Option.getD_some, Option.getD_none, Int.toNat_natCast, List.take_length, List.drop_zero, Nat.zero_add, List.nil_append, List.all_nil, List.append_nil, Bool.true_and, Bool.and_true, rowsA_sla, rowsA_sl, rowsA_nil, minus_zero, nat_le_cast, nat_nonneg, Option.isSome_some, Option.isSome_none, Bool.false_eq_true, false_and, and_false, if_true, if_false, implies_true, Int.toNat_zero, Bool.not_false, Bool.not_true, bne_self_eq_false]; rfl))
theorem loop90 (L n : Nat) (b : Bool) (a0 a1 a2 a3 a4 a5 a6 : Int) {m : List (List DV)} (hz : ∀ e ∈ m, okRow z7 e = true) (hl : m.length ≤ 1000) (j : Nat)
    (hno : ∀ i (hi : i < m.length), i ≠ j → frm m[i] = a1 → cls m[i] = a4 → decide (i < j) = b) :
    LoopOk (LB tab spO7 l9 L (n+4) h90 c9l0) (S9 b a0 a1 a2 a3 a4 a5 a6 m j 0) (.ex 0, St.of [] []) := by
  refine loop_meas (fun i : Nat => S9 b a0 a1 a2 a3 a4 a5 a6 m j (i : Nat)) (fun i => m.length - i) (fun i => i ≤ m.length) (fun _ => (.ex 0, St.of [] [])) (fun i hs => ?_) 0 (Nat.zero_le _)
  by_cases hi : i < m.length
  · left
    refine ⟨i + 1, hi, by omega, rfl, fun k => ?_⟩
    have hzi := hz _ (List.getElem_mem hi)
    have hn := hno i hi
    rw [s90, lt_dec hi, cond_true, wrap_succ (by omega)]
    simp only [look_nat hi, hzi, cond_true]
    by_cases hj : i = j
    · subst hj
      rw [bne_self_eq_false]
      rfl
    · rw [show (((i : Nat) : Int) != ((j : Nat) : Int)) = true from bne_iff_ne.2 (by omega), cond_true]
      by_cases hf : frm m[i] = a1
      · have e1 : ((cellA m[i] 1).toI == a1) = true := beq_iff_eq.2 hf
        rw [e1]
        by_cases hc : cls m[i] = a4
        · have e2 : ((cellA m[i] 4).toI == a4) = true := beq_iff_eq.2 hc
          have e3 : decide (((i : Nat) : Int) < ((j : Nat) : Int)) = b := by
            rw [← hn hj hf hc]
            exact decide_eq_decide.2 (by omega)
          rw [e2, e3, cond_true, beq_self_eq_true]
          rfl
        · have e2 : ((cellA m[i] 4).toI == a4) = false := beq_eq_false_iff_ne.2 hc
          rw [e2]
          rfl
      · have e1 : ((cellA m[i] 1).toI == a1) = false := beq_eq_false_iff_ne.2 hf
        rw [e1]
        rfl
  · right
    refine ⟨by simp, fun k => ?_⟩
    rw [s90, decide_eq_false (show ¬ ((i : Nat) : Int) < (m.length : Int) by omega)]
    rfl
/-- one put in at a place -/
theorem put_at {R : List (List DV)} (h1 : ND R) (h2 : R.Pairwise (fun a b => ahB a b = true)) (hl : R.length < 40) {p : List DV} (hp : ∀ a ∈ R, idO a ≠ idO p) {b : Nat} (hb : b ≤ R.length) (hA : ∀ a ∈ R.take b, ahB a p = true) (hD : ∀ d ∈ R.drop b, ahB p d = true) {M : List (List DV)} (hM : M = R.take b ++ p :: R.drop b) :
    isP M = true ∧ fI M (idO p) = (b : Nat) ∧ dropL M (idO p) = R ∧ M[b]? = some p ∧ dropP M (idO p) = p ∧ dropE M (idO p) = 0 := by
  have hT : ∀ a ∈ R.take b, idO a ≠ idO p := fun a ha => hp a (List.mem_of_mem_take ha)
  have hTl : (R.take b).length = b := by rw [List.length_take]; omega
  have hf : fI M (idO p) = (b : Nat) := by
    rw [hM, fI_app _ rfl _ hT, hTl]
  have hg : M[b]? = some p := by
    rw [hM, List.getElem?_append_right (by omega), hTl, Nat.sub_self]
    rfl
  have hn : decide (fI M (idO p) < 0) = false := decide_eq_false (by omega)
  refine ⟨?_, hf, ?_, hg, ?_, ?_⟩
  · rw [isP_iff, hM]
    refine ⟨ins_pw h1 _ hT (fun d hd => (hp d (List.mem_of_mem_drop hd)).symm), ?_, ins_pw h2 _ hA hD⟩
    rw [List.length_append, List.length_cons, List.length_take, List.length_drop]
    omega
  · unfold dropL delB
    rw [hn, hf, cond_false, Int.toNat_natCast, hM]
    have q1 : (R.take b ++ p :: R.drop b).take b = R.take b := by
      rw [List.take_append_of_le_length (by omega), List.take_of_length_le (by omega)]
    have q2 : (R.take b ++ p :: R.drop b).drop (b + 1) = R.drop b := by
      rw [List.drop_append, List.drop_eq_nil_of_le (by omega), hTl, List.nil_append, show b + 1 - b = 1 by omega]
      rfl
    rw [q1, q2, List.take_append_drop]
  · unfold dropP
    rw [hn, hf, Int.toNat_natCast, hg]
    rfl
  · unfold dropE
    rw [hn]
    rfl
theorem fr_take (R : List (List DV)) (p : List DV) : ∀ a ∈ R.take (frP R p), ahB p a = false := fun a ha => by
  obtain ⟨k1, k2, _⟩ := tw_spec (fun e => decide (ordI e p < 0)) R
  change ∀ i (_ : i < frP R p) (h2 : i < R.length), decide (ordI R[i] p < 0) = true at k2
  obtain ⟨i, hi, rfl⟩ := List.getElem_of_mem ha
  rw [List.length_take] at hi
  rw [List.getElem_take]
  have := k2 i (by omega) (by omega)
  rw [ord_lt] at this
  simpa using this
theorem fr_drop {R : List (List DV)} (h : R.Pairwise (fun a b => ahB a b = true)) (p : List DV) : ∀ d ∈ R.drop (frP R p), ahB p d = true := fun d hd => by
  obtain ⟨k1, _, k3⟩ := tw_spec (fun e => decide (ordI e p < 0)) R
  change frP R p ≤ R.length at k1
  change ∀ h : frP R p < R.length, decide (ordI R[frP R p] p < 0) = false at k3
  obtain ⟨i, hi, rfl⟩ := List.getElem_of_mem hd
  rw [List.length_drop] at hi
  rw [List.getElem_drop]
  have h0 := k3 (by omega)
  rw [ord_lt] at h0
  have h0 : ahB p (R[frP R p]'(by omega)) = true := by simpa using h0
  by_cases h00 : i = 0
  · subst h00
    rw [← h0]
    simp
  · exact ah_trans h0 (List.pairwise_iff_getElem.1 h (frP R p) (frP R p + i) (by omega) (by omega) (by omega))
theorem ah_like {e p : List DV} (h1 : frm e = frm p) (h2 : cls e = cls p) : ahB e p = true := (ah_iff _ _).2 (.inr ⟨h1, by rw [h2]; exact Int.le_refl _⟩)
/-- where another than the one put in stands, there it stands in the rest -/
theorem at_other {R : List (List DV)} {p : List DV} {b : Nat} (hb : b ≤ R.length) {i : Nat} (hi : i < (R.take b ++ p :: R.drop b).length) (hib : i ≠ b) : (i < b ∧ (R.take b ++ p :: R.drop b)[i] ∈ R.take b) ∨ (b < i ∧ (R.take b ++ p :: R.drop b)[i] ∈ R.drop b) := by
  have hTl : (R.take b).length = b := by rw [List.length_take]; omega
  by_cases h : i < b
  · left
    refine ⟨h, ?_⟩
    rw [List.getElem_append_left (by omega)]
    exact List.getElem_mem _
  · right
    refine ⟨by omega, ?_⟩
    rw [List.getElem_append_right (by omega)]
    obtain ⟨k, hk⟩ : ∃ k, i - (R.take b).length = k + 1 := ⟨i - (R.take b).length - 1, by omega⟩
    simp only [hk, List.getElem_cons_succ]
    exact List.getElem_mem _
end Go.Proofs.Ytngghbloijkfoaa
