/- RowPlays: the run of the statement. No condition. -/
import Derived.Test.YtngghbloijkfoaaRo
namespace Go.Proofs.Ytngghbloijkfoaa
open Go Go.Proofs Go.RowKit Vm
set_option linter.unusedVariables false
set_option linter.unusedSimpArgs false
noncomputable def spS7 : FuncId → Option FSpec := spAdd 21 kno7 (spAdd 22 putS (spAdd 23 drpS (spAdd 24 clsS (spAdd 28 frnS (spAdd 29 bakS (spAdd 34 fndS (spAdd 19 isPS (spAdd 25 drpS (spAdd 26 fndS (spAdd 27 samP (spAdd 30 putS (spAdd 31 frnS (spAdd 32 bkdS (spAdd 33 cldS noSp))))))))))))))
def l100 : LSpec := fun st => .one (.ex 0) (St.of [] [])
def l10 (k : Nat) : Option LSpec := if k = 100 then some l100 else none
def S100 (es : List (List DV)) (a b : DV) (i : Int) : St := St.of [(0, .d (.sla false 8 es)), (3, .d a), (4, .d b), (5, .d (.int .i64 i))] [(52, none), (58, none), (69, none), (77, none), (90, none), (97, none), (106, none), (113, none), (124, none), (133, none)]
theorem s100 (L n : Nat) (es M : List (List DV)) (i : Nat) (k : Kont) : LB tab spS7 l10 L (n+4) h100 c10l0 (S100 es (.sla false 7 M) (.sla false 7 M) i) k =
   (bif decide ((↑i : Int) < (↑es.length : Int)) then
 lookK es[i]? fun (e1 : List DV) =>
 bif
 okRow
 [DV.int .i64 0, DV.int .i64 0, DV.int .i64 0, DV.int .i64 0, DV.int .i64 0, DV.int .i64 0, DV.int .i64 0, DV.int .i64 0]
 e1 then
 bif decide (M.length = (0 : Nat)) then
 lookK es[i]? fun (e5 : List DV) =>
 bif
 okRow
 [DV.int .i64 0, DV.int .i64 0, DV.int .i64 0, DV.int .i64 0, DV.int .i64 0, DV.int .i64 0, DV.int .i64 0, DV.int .i64 0]
 e5 then
 bif (cellA e5 0).toI == (1 : Int) then
 need
 (putS.D
 [DV.sla false 7 M,
 DV.agg
 [DV.int .i64 (cellA e1 1).toI, DV.int .i64 (cellA e1 2).toI, DV.int .i64 (cellA e1 3).toI, DV.int .i64 (cellA e1 4).toI, DV.int .i64 (cellA e1 5).toI, DV.int .i64 (cellA e1 6).toI, DV.int .i64 (cellA e1 7).toI]])
 (need
 (putS.D
 [DV.sla false 7 M,
 DV.agg
 [DV.int .i64 (cellA e1 1).toI, DV.int .i64 (cellA e1 2).toI, DV.int .i64 (cellA e1 3).toI, DV.int .i64 (cellA e1 4).toI, DV.int .i64 (cellA e1 5).toI, DV.int .i64 (cellA e1 6).toI, DV.int .i64 (cellA e1 7).toI]])
 (need
 (samP.D
 [DV.sla false 7
 (putL M
 [DV.int .i64 (cellA e1 1).toI, DV.int .i64 (cellA e1 2).toI, DV.int .i64 (cellA e1 3).toI, DV.int .i64 (cellA e1 4).toI, DV.int .i64 (cellA e1 5).toI, DV.int .i64 (cellA e1 6).toI, DV.int .i64 (cellA e1 7).toI]),
 DV.sla false 7
 (putL M
 [DV.int .i64 (cellA e1 1).toI, DV.int .i64 (cellA e1 2).toI, DV.int .i64 (cellA e1 3).toI, DV.int .i64 (cellA e1 4).toI, DV.int .i64 (cellA e1 5).toI, DV.int .i64 (cellA e1 6).toI, DV.int .i64 (cellA e1 7).toI])])
 (bif
 bif
 !sameP
 (putL M
 [DV.int .i64 (cellA e1 1).toI, DV.int .i64 (cellA e1 2).toI, DV.int .i64 (cellA e1 3).toI, DV.int .i64 (cellA e1 4).toI, DV.int .i64 (cellA e1 5).toI, DV.int .i64 (cellA e1 6).toI, DV.int .i64 (cellA e1 7).toI])
 (putL M
 [DV.int .i64 (cellA e1 1).toI, DV.int .i64 (cellA e1 2).toI, DV.int .i64 (cellA e1 3).toI, DV.int .i64 (cellA e1 4).toI, DV.int .i64 (cellA e1 5).toI, DV.int .i64 (cellA e1 6).toI, DV.int .i64 (cellA e1 7).toI]) then
 true
 else false then
 k Ex.ret (St.of [(2, AV.d (DV.bool false))] [(158, none)])
 else
 need (samP.D [DV.sla false 7 M, DV.sl SK.ro 7 []])
 (bif !sameP M [] then k Ex.ret (St.of [(2, AV.d (DV.bool false))] [(158, none)])
 else
 need
 (isPS.D
 [DV.sla false 7
 (putL M
 [DV.int .i64 (cellA e1 1).toI, DV.int .i64 (cellA e1 2).toI, DV.int .i64 (cellA e1 3).toI, DV.int .i64 (cellA e1 4).toI, DV.int .i64 (cellA e1 5).toI, DV.int .i64 (cellA e1 6).toI, DV.int .i64 (cellA e1 7).toI])])
 (bif
 !isP
 (putL M
 [DV.int .i64 (cellA e1 1).toI, DV.int .i64 (cellA e1 2).toI, DV.int .i64 (cellA e1 3).toI, DV.int .i64 (cellA e1 4).toI, DV.int .i64 (cellA e1 5).toI, DV.int .i64 (cellA e1 6).toI, DV.int .i64 (cellA e1 7).toI]) then
 k Ex.ret (St.of [(2, AV.d (DV.bool false))] [(158, none)])
 else
 k Ex.nrm
 (St.of
 [(0, AV.d (DV.sla false 8 es)),
 ((3 : Nat),
 AV.d
 (DV.sla false 7
 (putL M
 [DV.int .i64 (cellA e1 1).toI, DV.int .i64 (cellA e1 2).toI, DV.int .i64 (cellA e1 3).toI, DV.int .i64 (cellA e1 4).toI, DV.int .i64 (cellA e1 5).toI, DV.int .i64 (cellA e1 6).toI, DV.int .i64 (cellA e1 7).toI]))),
 ((4 : Nat),
 AV.d
 (DV.sla false 7
 (putL M
 [DV.int .i64 (cellA e1 1).toI, DV.int .i64 (cellA e1 2).toI, DV.int .i64 (cellA e1 3).toI, DV.int .i64 (cellA e1 4).toI, DV.int .i64 (cellA e1 5).toI, DV.int .i64 (cellA e1 6).toI, DV.int .i64 (cellA e1 7).toI]))),
 ((5 : Nat), AV.d (DV.int .i64 (IntKind.i64.wrap ((↑i : Int) + (1 : Int)))))]
 [(52, none), (58, none), (69, none), (77, none), (90, none), (97, none),
 ((106 : Nat), none), (113, none), (124, none), (133, none)]))))))
 else
 bif (cellA e5 0).toI == (2 : Int) then
 need (drpS.D [DV.sla false 7 M, DV.int .i64 (cellA e1 1).toI])
 (need (drpS.D [DV.sla false 7 M, DV.int .i64 (cellA e1 1).toI])
 (bif
 !((cellA (dropP M (cellA e1 1).toI) (0 : Nat)).toI == (cellA (dropP M (cellA e1 1).toI) (0 : Nat)).toI &&
 ((cellA (dropP M (cellA e1 1).toI) (1 : Nat)).toI == (cellA (dropP M (cellA e1 1).toI) (1 : Nat)).toI &&
 ((cellA (dropP M (cellA e1 1).toI) (2 : Nat)).toI == (cellA (dropP M (cellA e1 1).toI) (2 : Nat)).toI &&
 ((cellA (dropP M (cellA e1 1).toI) (3 : Nat)).toI == (cellA (dropP M (cellA e1 1).toI) (3 : Nat)).toI &&
 ((cellA (dropP M (cellA e1 1).toI) (4 : Nat)).toI == (cellA (dropP M (cellA e1 1).toI) (4 : Nat)).toI &&
 ((cellA (dropP M (cellA e1 1).toI) (5 : Nat)).toI == (cellA (dropP M (cellA e1 1).toI) (5 : Nat)).toI &&
 (cellA (dropP M (cellA e1 1).toI) (6 : Nat)).toI ==
 (cellA (dropP M (cellA e1 1).toI) (6 : Nat)).toI)))))) then
 k Ex.ret (St.of [(2, AV.d (DV.bool false))] [(158, none)])
 else
 need (samP.D [DV.sla false 7 (dropL M (cellA e1 1).toI), DV.sla false 7 (dropL M (cellA e1 1).toI)])
 (bif bif !sameP (dropL M (cellA e1 1).toI) (dropL M (cellA e1 1).toI) then true else false then
 k Ex.ret (St.of [(2, AV.d (DV.bool false))] [(158, none)])
 else
 need (samP.D [DV.sla false 7 M, DV.sl SK.ro 7 []])
 (bif !sameP M [] then k Ex.ret (St.of [(2, AV.d (DV.bool false))] [(158, none)])
 else
 need (isPS.D [DV.sla false 7 (dropL M (cellA e1 1).toI)])
 (bif !isP (dropL M (cellA e1 1).toI) then k Ex.ret (St.of [(2, AV.d (DV.bool false))] [(158, none)])
 else
 k Ex.nrm
 (St.of
 [(0, AV.d (DV.sla false 8 es)),
 ((3 : Nat), AV.d (DV.sla false 7 (dropL M (cellA e1 1).toI))),
 ((4 : Nat), AV.d (DV.sla false 7 (dropL M (cellA e1 1).toI))),
 ((5 : Nat), AV.d (DV.int .i64 (IntKind.i64.wrap ((↑i : Int) + (1 : Int)))))]
 [(52, none), (58, none), (69, none), (77, none), (90, none), (97, none),
 ((106 : Nat), none), (113, none), (124, none), (133, none)]))))))
 else
 bif (cellA e5 0).toI == (3 : Int) then
 need (frnS.D [DV.sla false 7 M, DV.int .i64 (cellA e1 1).toI])
 (need (frnS.D [DV.sla false 7 M, DV.int .i64 (cellA e1 1).toI])
 (need (samP.D [DV.sla false 7 (frnL M (cellA e1 1).toI), DV.sla false 7 (frnL M (cellA e1 1).toI)])
 (bif bif !sameP (frnL M (cellA e1 1).toI) (frnL M (cellA e1 1).toI) then true else false then
 k Ex.ret (St.of [(2, AV.d (DV.bool false))] [(158, none)])
 else
 need (samP.D [DV.sla false 7 M, DV.sl SK.ro 7 []])
 (bif !sameP M [] then k Ex.ret (St.of [(2, AV.d (DV.bool false))] [(158, none)])
 else
 need (isPS.D [DV.sla false 7 (frnL M (cellA e1 1).toI)])
 (bif !isP (frnL M (cellA e1 1).toI) then k Ex.ret (St.of [(2, AV.d (DV.bool false))] [(158, none)])
 else
 k Ex.nrm
 (St.of
 [(0, AV.d (DV.sla false 8 es)),
 ((3 : Nat), AV.d (DV.sla false 7 (frnL M (cellA e1 1).toI))),
 ((4 : Nat), AV.d (DV.sla false 7 (frnL M (cellA e1 1).toI))),
 ((5 : Nat), AV.d (DV.int .i64 (IntKind.i64.wrap ((↑i : Int) + (1 : Int)))))]
 [(52, none), (58, none), (69, none), (77, none), (90, none), (97, none),
 ((106 : Nat), none), (113, none), (124, none), (133, none)]))))))
 else
 bif (cellA e5 0).toI == (4 : Int) then
 need (bakS.D [DV.sla false 7 M, DV.int .i64 (cellA e1 1).toI])
 (need (bkdS.D [DV.sla false 7 M, DV.int .i64 (cellA e1 1).toI])
 (need (samP.D [DV.sla false 7 (bakL M (cellA e1 1).toI), DV.sla false 7 (bakL M (cellA e1 1).toI)])
 (bif bif !sameP (bakL M (cellA e1 1).toI) (bakL M (cellA e1 1).toI) then true else false then
 k Ex.ret (St.of [(2, AV.d (DV.bool false))] [(158, none)])
 else
 need (samP.D [DV.sla false 7 M, DV.sl SK.ro 7 []])
 (bif !sameP M [] then k Ex.ret (St.of [(2, AV.d (DV.bool false))] [(158, none)])
 else
 need (isPS.D [DV.sla false 7 (bakL M (cellA e1 1).toI)])
 (bif !isP (bakL M (cellA e1 1).toI) then k Ex.ret (St.of [(2, AV.d (DV.bool false))] [(158, none)])
 else
 k Ex.nrm
 (St.of
 [(0, AV.d (DV.sla false 8 es)),
 ((3 : Nat), AV.d (DV.sla false 7 (bakL M (cellA e1 1).toI))),
 ((4 : Nat), AV.d (DV.sla false 7 (bakL M (cellA e1 1).toI))),
 ((5 : Nat), AV.d (DV.int .i64 (IntKind.i64.wrap ((↑i : Int) + (1 : Int)))))]
 [(52, none), (58, none), (69, none), (77, none), (90, none), (97, none),
 ((106 : Nat), none), (113, none), (124, none), (133, none)]))))))
 else
 bif (cellA e5 0).toI == (5 : Int) then
 need (clsS.D [DV.sla false 7 M, DV.int .i64 (cellA e1 1).toI, DV.int .i64 (cellA e1 5).toI])
 (need (cldS.D [DV.sla false 7 M, DV.int .i64 (cellA e1 1).toI, DV.int .i64 (cellA e1 5).toI])
 (need
 (samP.D
 [DV.sla false 7 (clsL M (cellA e1 1).toI (cellA e1 5).toI),
 DV.sla false 7 (clsL M (cellA e1 1).toI (cellA e1 5).toI)])
 (bif
 bif
 !sameP (clsL M (cellA e1 1).toI (cellA e1 5).toI)
 (clsL M (cellA e1 1).toI (cellA e1 5).toI) then
 true
 else false then
 k Ex.ret (St.of [(2, AV.d (DV.bool false))] [(158, none)])
 else
 need (samP.D [DV.sla false 7 M, DV.sl SK.ro 7 []])
 (bif !sameP M [] then k Ex.ret (St.of [(2, AV.d (DV.bool false))] [(158, none)])
 else
 need (isPS.D [DV.sla false 7 (clsL M (cellA e1 1).toI (cellA e1 5).toI)])
 (bif !isP (clsL M (cellA e1 1).toI (cellA e1 5).toI) then
 k Ex.ret (St.of [(2, AV.d (DV.bool false))] [(158, none)])
 else
 k Ex.nrm
 (St.of
 [(0, AV.d (DV.sla false 8 es)),
 ((3 : Nat), AV.d (DV.sla false 7 (clsL M (cellA e1 1).toI (cellA e1 5).toI))),
 ((4 : Nat), AV.d (DV.sla false 7 (clsL M (cellA e1 1).toI (cellA e1 5).toI))),
 ((5 : Nat), AV.d (DV.int .i64 (IntKind.i64.wrap ((↑i : Int) + (1 : Int)))))]
 [(52, none), (58, none), (69, none), (77, none), (90, none),
 ((97 : Nat), none), (106, none), (113, none), (124, none), (133, none)]))))))
 else
 need (fndS.D [DV.sla false 7 M, DV.int .i64 (cellA e1 1).toI])
 (need (fndS.D [DV.sla false 7 M, DV.int .i64 (cellA e1 1).toI])
 (need (samP.D [DV.sla false 7 M, DV.sla false 7 M])
 (bif bif !sameP M M then true else false then k Ex.ret (St.of [(2, AV.d (DV.bool false))] [(158, none)])
 else
 need (samP.D [DV.sla false 7 M, DV.sl SK.ro 7 []])
 (bif !sameP M [] then k Ex.ret (St.of [(2, AV.d (DV.bool false))] [(158, none)])
 else
 need (isPS.D [DV.sla false 7 M])
 (bif !isP M then k Ex.ret (St.of [(2, AV.d (DV.bool false))] [(158, none)])
 else
 k Ex.nrm
 (St.of
 [(0, AV.d (DV.sla false 8 es)), (3, AV.d (DV.sla false 7 M)),
 ((4 : Nat), AV.d (DV.sla false 7 M)),
 ((5 : Nat), AV.d (DV.int .i64 (IntKind.i64.wrap ((↑i : Int) + (1 : Int)))))]
 [(52, none), (58, none), (69, none), (77, none), (90, none),
 ((97 : Nat), none), (106, none), (113, none), (124, none), (133, none)]))))))
 else none
 else
 bif M.all fun (e : List DV) => e.length == (7 : Nat) && e.all DV.one then
 bif decide (M.length * (56 : Nat) ≤ room ∧ M.length ≤ room) then
 lookK es[i]? fun (e7 : List DV) =>
 bif
 okRow
 [DV.int .i64 0, DV.int .i64 0, DV.int .i64 0, DV.int .i64 0, DV.int .i64 0, DV.int .i64 0, DV.int .i64 0, DV.int .i64 0]
 e7 then
 bif (cellA e7 0).toI == (1 : Int) then
 need
 (putS.D
 [DV.sla false 7 M,
 DV.agg
 [DV.int .i64 (cellA e1 1).toI, DV.int .i64 (cellA e1 2).toI, DV.int .i64 (cellA e1 3).toI, DV.int .i64 (cellA e1 4).toI, DV.int .i64 (cellA e1 5).toI, DV.int .i64 (cellA e1 6).toI, DV.int .i64 (cellA e1 7).toI]])
 (need
 (putS.D
 [DV.sla false 7 M,
 DV.agg
 [DV.int .i64 (cellA e1 1).toI, DV.int .i64 (cellA e1 2).toI, DV.int .i64 (cellA e1 3).toI, DV.int .i64 (cellA e1 4).toI, DV.int .i64 (cellA e1 5).toI, DV.int .i64 (cellA e1 6).toI, DV.int .i64 (cellA e1 7).toI]])
 (need
 (samP.D
 [DV.sla false 7
 (putL M
 [DV.int .i64 (cellA e1 1).toI, DV.int .i64 (cellA e1 2).toI, DV.int .i64 (cellA e1 3).toI, DV.int .i64 (cellA e1 4).toI, DV.int .i64 (cellA e1 5).toI, DV.int .i64 (cellA e1 6).toI, DV.int .i64 (cellA e1 7).toI]),
 DV.sla false 7
 (putL M
 [DV.int .i64 (cellA e1 1).toI, DV.int .i64 (cellA e1 2).toI, DV.int .i64 (cellA e1 3).toI, DV.int .i64 (cellA e1 4).toI, DV.int .i64 (cellA e1 5).toI, DV.int .i64 (cellA e1 6).toI, DV.int .i64 (cellA e1 7).toI])])
 (bif
 bif
 !sameP
 (putL M
 [DV.int .i64 (cellA e1 1).toI, DV.int .i64 (cellA e1 2).toI, DV.int .i64 (cellA e1 3).toI, DV.int .i64 (cellA e1 4).toI, DV.int .i64 (cellA e1 5).toI, DV.int .i64 (cellA e1 6).toI, DV.int .i64 (cellA e1 7).toI])
 (putL M
 [DV.int .i64 (cellA e1 1).toI, DV.int .i64 (cellA e1 2).toI, DV.int .i64 (cellA e1 3).toI, DV.int .i64 (cellA e1 4).toI, DV.int .i64 (cellA e1 5).toI, DV.int .i64 (cellA e1 6).toI, DV.int .i64 (cellA e1 7).toI]) then
 true
 else false then
 k Ex.ret (St.of [(2, AV.d (DV.bool false))] [(158, none)])
 else
 need (samP.D [DV.sla false 7 M, DV.sl SK.ro 7 M])
 (bif !sameP M M then k Ex.ret (St.of [(2, AV.d (DV.bool false))] [(158, none)])
 else
 need
 (isPS.D
 [DV.sla false 7
 (putL M
 [DV.int .i64 (cellA e1 1).toI, DV.int .i64 (cellA e1 2).toI, DV.int .i64 (cellA e1 3).toI, DV.int .i64 (cellA e1 4).toI, DV.int .i64 (cellA e1 5).toI, DV.int .i64 (cellA e1 6).toI, DV.int .i64 (cellA e1 7).toI])])
 (bif
 !isP
 (putL M
 [DV.int .i64 (cellA e1 1).toI, DV.int .i64 (cellA e1 2).toI, DV.int .i64 (cellA e1 3).toI, DV.int .i64 (cellA e1 4).toI, DV.int .i64 (cellA e1 5).toI, DV.int .i64 (cellA e1 6).toI, DV.int .i64 (cellA e1 7).toI]) then
 k Ex.ret (St.of [(2, AV.d (DV.bool false))] [(158, none)])
 else
 k Ex.nrm
 (St.of
 [(0, AV.d (DV.sla false 8 es)),
 ((3 : Nat),
 AV.d
 (DV.sla false 7
 (putL M
 [DV.int .i64 (cellA e1 1).toI, DV.int .i64 (cellA e1 2).toI, DV.int .i64 (cellA e1 3).toI, DV.int .i64 (cellA e1 4).toI, DV.int .i64 (cellA e1 5).toI, DV.int .i64 (cellA e1 6).toI, DV.int .i64 (cellA e1 7).toI]))),
 ((4 : Nat),
 AV.d
 (DV.sla false 7
 (putL M
 [DV.int .i64 (cellA e1 1).toI, DV.int .i64 (cellA e1 2).toI, DV.int .i64 (cellA e1 3).toI, DV.int .i64 (cellA e1 4).toI, DV.int .i64 (cellA e1 5).toI, DV.int .i64 (cellA e1 6).toI, DV.int .i64 (cellA e1 7).toI]))),
 ((5 : Nat), AV.d (DV.int .i64 (IntKind.i64.wrap ((↑i : Int) + (1 : Int)))))]
 [(52, none), (58, none), (69, none), (77, none), (90, none), (97, none),
 ((106 : Nat), none), (113, none), (124, none), (133, none)]))))))
 else
 bif (cellA e7 0).toI == (2 : Int) then
 need (drpS.D [DV.sla false 7 M, DV.int .i64 (cellA e1 1).toI])
 (need (drpS.D [DV.sla false 7 M, DV.int .i64 (cellA e1 1).toI])
 (bif
 !((cellA (dropP M (cellA e1 1).toI) (0 : Nat)).toI == (cellA (dropP M (cellA e1 1).toI) (0 : Nat)).toI &&
 ((cellA (dropP M (cellA e1 1).toI) (1 : Nat)).toI == (cellA (dropP M (cellA e1 1).toI) (1 : Nat)).toI &&
 ((cellA (dropP M (cellA e1 1).toI) (2 : Nat)).toI == (cellA (dropP M (cellA e1 1).toI) (2 : Nat)).toI &&
 ((cellA (dropP M (cellA e1 1).toI) (3 : Nat)).toI == (cellA (dropP M (cellA e1 1).toI) (3 : Nat)).toI &&
 ((cellA (dropP M (cellA e1 1).toI) (4 : Nat)).toI == (cellA (dropP M (cellA e1 1).toI) (4 : Nat)).toI &&
 ((cellA (dropP M (cellA e1 1).toI) (5 : Nat)).toI ==
 (cellA (dropP M (cellA e1 1).toI) (5 : Nat)).toI &&
 (cellA (dropP M (cellA e1 1).toI) (6 : Nat)).toI ==
 (cellA (dropP M (cellA e1 1).toI) (6 : Nat)).toI)))))) then
 k Ex.ret (St.of [(2, AV.d (DV.bool false))] [(158, none)])
 else
 need (samP.D [DV.sla false 7 (dropL M (cellA e1 1).toI), DV.sla false 7 (dropL M (cellA e1 1).toI)])
 (bif bif !sameP (dropL M (cellA e1 1).toI) (dropL M (cellA e1 1).toI) then true else false then
 k Ex.ret (St.of [(2, AV.d (DV.bool false))] [(158, none)])
 else
 need (samP.D [DV.sla false 7 M, DV.sl SK.ro 7 M])
 (bif !sameP M M then k Ex.ret (St.of [(2, AV.d (DV.bool false))] [(158, none)])
 else
 need (isPS.D [DV.sla false 7 (dropL M (cellA e1 1).toI)])
 (bif !isP (dropL M (cellA e1 1).toI) then
 k Ex.ret (St.of [(2, AV.d (DV.bool false))] [(158, none)])
 else
 k Ex.nrm
 (St.of
 [(0, AV.d (DV.sla false 8 es)),
 ((3 : Nat), AV.d (DV.sla false 7 (dropL M (cellA e1 1).toI))),
 ((4 : Nat), AV.d (DV.sla false 7 (dropL M (cellA e1 1).toI))),
 ((5 : Nat), AV.d (DV.int .i64 (IntKind.i64.wrap ((↑i : Int) + (1 : Int)))))]
 [(52, none), (58, none), (69, none), (77, none), (90, none),
 ((97 : Nat), none), (106, none), (113, none), (124, none), (133, none)]))))))
 else
 bif (cellA e7 0).toI == (3 : Int) then
 need (frnS.D [DV.sla false 7 M, DV.int .i64 (cellA e1 1).toI])
 (need (frnS.D [DV.sla false 7 M, DV.int .i64 (cellA e1 1).toI])
 (need (samP.D [DV.sla false 7 (frnL M (cellA e1 1).toI), DV.sla false 7 (frnL M (cellA e1 1).toI)])
 (bif bif !sameP (frnL M (cellA e1 1).toI) (frnL M (cellA e1 1).toI) then true else false then
 k Ex.ret (St.of [(2, AV.d (DV.bool false))] [(158, none)])
 else
 need (samP.D [DV.sla false 7 M, DV.sl SK.ro 7 M])
 (bif !sameP M M then k Ex.ret (St.of [(2, AV.d (DV.bool false))] [(158, none)])
 else
 need (isPS.D [DV.sla false 7 (frnL M (cellA e1 1).toI)])
 (bif !isP (frnL M (cellA e1 1).toI) then
 k Ex.ret (St.of [(2, AV.d (DV.bool false))] [(158, none)])
 else
 k Ex.nrm
 (St.of
 [(0, AV.d (DV.sla false 8 es)),
 ((3 : Nat), AV.d (DV.sla false 7 (frnL M (cellA e1 1).toI))),
 ((4 : Nat), AV.d (DV.sla false 7 (frnL M (cellA e1 1).toI))),
 ((5 : Nat), AV.d (DV.int .i64 (IntKind.i64.wrap ((↑i : Int) + (1 : Int)))))]
 [(52, none), (58, none), (69, none), (77, none), (90, none),
 ((97 : Nat), none), (106, none), (113, none), (124, none), (133, none)]))))))
 else
 bif (cellA e7 0).toI == (4 : Int) then
 need (bakS.D [DV.sla false 7 M, DV.int .i64 (cellA e1 1).toI])
 (need (bkdS.D [DV.sla false 7 M, DV.int .i64 (cellA e1 1).toI])
 (need
 (samP.D [DV.sla false 7 (bakL M (cellA e1 1).toI), DV.sla false 7 (bakL M (cellA e1 1).toI)])
 (bif bif !sameP (bakL M (cellA e1 1).toI) (bakL M (cellA e1 1).toI) then true else false then
 k Ex.ret (St.of [(2, AV.d (DV.bool false))] [(158, none)])
 else
 need (samP.D [DV.sla false 7 M, DV.sl SK.ro 7 M])
 (bif !sameP M M then k Ex.ret (St.of [(2, AV.d (DV.bool false))] [(158, none)])
 else
 need (isPS.D [DV.sla false 7 (bakL M (cellA e1 1).toI)])
 (bif !isP (bakL M (cellA e1 1).toI) then
 k Ex.ret (St.of [(2, AV.d (DV.bool false))] [(158, none)])
 else
 k Ex.nrm
 (St.of
 [(0, AV.d (DV.sla false 8 es)),
 ((3 : Nat), AV.d (DV.sla false 7 (bakL M (cellA e1 1).toI))),
 ((4 : Nat), AV.d (DV.sla false 7 (bakL M (cellA e1 1).toI))),
 ((5 : Nat), AV.d (DV.int .i64 (IntKind.i64.wrap ((↑i : Int) + (1 : Int)))))]
 [(52, none), (58, none), (69, none), (77, none), (90, none),
 ((97 : Nat), none), (106, none), (113, none), (124, none), (133, none)]))))))
 else
 bif (cellA e7 0).toI == (5 : Int) then
 need (clsS.D [DV.sla false 7 M, DV.int .i64 (cellA e1 1).toI, DV.int .i64 (cellA e1 5).toI])
 (need (cldS.D [DV.sla false 7 M, DV.int .i64 (cellA e1 1).toI, DV.int .i64 (cellA e1 5).toI])
 (need
 (samP.D
 [DV.sla false 7 (clsL M (cellA e1 1).toI (cellA e1 5).toI),
 DV.sla false 7 (clsL M (cellA e1 1).toI (cellA e1 5).toI)])
 (bif
 bif
 !sameP (clsL M (cellA e1 1).toI (cellA e1 5).toI)
 (clsL M (cellA e1 1).toI (cellA e1 5).toI) then
 true
 else false then
 k Ex.ret (St.of [(2, AV.d (DV.bool false))] [(158, none)])
 else
 need (samP.D [DV.sla false 7 M, DV.sl SK.ro 7 M])
 (bif !sameP M M then k Ex.ret (St.of [(2, AV.d (DV.bool false))] [(158, none)])
 else
 need (isPS.D [DV.sla false 7 (clsL M (cellA e1 1).toI (cellA e1 5).toI)])
 (bif !isP (clsL M (cellA e1 1).toI (cellA e1 5).toI) then
 k Ex.ret (St.of [(2, AV.d (DV.bool false))] [(158, none)])
 else
 k Ex.nrm
 (St.of
 [(0, AV.d (DV.sla false 8 es)),
 ((3 : Nat), AV.d (DV.sla false 7 (clsL M (cellA e1 1).toI (cellA e1 5).toI))),
 ((4 : Nat), AV.d (DV.sla false 7 (clsL M (cellA e1 1).toI (cellA e1 5).toI))),
 ((5 : Nat), AV.d (DV.int .i64 (IntKind.i64.wrap ((↑i : Int) + (1 : Int)))))]
 [(52, none), (58, none), (69, none), (77, none), (90, none),
 ((97 : Nat), none), (106, none), (113, none), (124, none), (133, none)]))))))
 else
 need (fndS.D [DV.sla false 7 M, DV.int .i64 (cellA e1 1).toI])
 (need (fndS.D [DV.sla false 7 M, DV.int .i64 (cellA e1 1).toI])
 (need (samP.D [DV.sla false 7 M, DV.sla false 7 M])
 (bif bif !sameP M M then true else false then k Ex.ret (St.of [(2, AV.d (DV.bool false))] [(158, none)])
 else
 need (samP.D [DV.sla false 7 M, DV.sl SK.ro 7 M])
 (bif !sameP M M then k Ex.ret (St.of [(2, AV.d (DV.bool false))] [(158, none)])
 else
 need (isPS.D [DV.sla false 7 M])
 (bif !isP M then k Ex.ret (St.of [(2, AV.d (DV.bool false))] [(158, none)])
 else
 k Ex.nrm
 (St.of
 [(0, AV.d (DV.sla false 8 es)), (3, AV.d (DV.sla false 7 M)),
 ((4 : Nat), AV.d (DV.sla false 7 M)),
 ((5 : Nat), AV.d (DV.int .i64 (IntKind.i64.wrap ((↑i : Int) + (1 : Int)))))]
 [(52, none), (58, none), (69, none), (77, none), (90, none),
 ((97 : Nat), none), (106, none), (113, none), (124, none), (133, none)]))))))
 else none
 else none
 else none
 else none
 else k (Ex.ex (0 : Nat)) (St.of [] [])) :=
  (show LB tab spS7 l10 L (n+4) h100 c10l0 (S100 es (.sla false 7 M) (.sla false 7 M) i) k =
 (cond (decide ((↑i : Int) < (↑es.length : Int)))
 (lookK (es[(↑i : Int).toNat]?)
 fun e1 =>
 (cond (okRow [DV.int .i64 0, DV.int .i64 0, DV.int .i64 0, DV.int .i64 0, DV.int .i64 0, DV.int .i64 0, DV.int .i64 0, DV.int .i64 0] e1)
 (cond (decide (M.length = (0 : Nat)))
 (lookK (es[(↑i : Int).toNat]?)
 fun e5 =>
 (cond (okRow [DV.int .i64 0, DV.int .i64 0, DV.int .i64 0, DV.int .i64 0, DV.int .i64 0, DV.int .i64 0, DV.int .i64 0, DV.int .i64 0] e5)
 (cond ((cellA e5 0).toI == (1 : Int))
 (need (FSpec.D (putS) [(.sla false 7 M), (.agg [(.int .i64 ((cellA e1 1).toI)), (.int .i64 ((cellA e1 2).toI)), (.int .i64 ((cellA e1 3).toI)), (.int .i64 ((cellA e1 4).toI)), (.int .i64 ((cellA e1 5).toI)), (.int .i64 ((cellA e1 6).toI)), (.int .i64 ((cellA e1 7).toI))])])
 (need (FSpec.D (putS) [(.sla false 7 M), (.agg [(.int .i64 ((cellA e1 1).toI)), (.int .i64 ((cellA e1 2).toI)), (.int .i64 ((cellA e1 3).toI)), (.int .i64 ((cellA e1 4).toI)), (.int .i64 ((cellA e1 5).toI)), (.int .i64 ((cellA e1 6).toI)), (.int .i64 ((cellA e1 7).toI))])])
 (need (FSpec.D (samP) [(.sla false 7 (putL (rowsA (DV.sla false 7 M)) [DV.int .i64 (cellA e1 1).toI, DV.int .i64 (cellA e1 2).toI, DV.int .i64 (cellA e1 3).toI, DV.int .i64 (cellA e1 4).toI, DV.int .i64 (cellA e1 5).toI, DV.int .i64 (cellA e1 6).toI, DV.int .i64 (cellA e1 7).toI])), (.sla false 7 (putL (rowsA (DV.sla false 7 M)) [DV.int .i64 (cellA e1 1).toI, DV.int .i64 (cellA e1 2).toI, DV.int .i64 (cellA e1 3).toI, DV.int .i64 (cellA e1 4).toI, DV.int .i64 (cellA e1 5).toI, DV.int .i64 (cellA e1 6).toI, DV.int .i64 (cellA e1 7).toI]))])
 (cond (bif !sameP (rowsA (DV.sla false 7 (putL (rowsA (DV.sla false 7 M)) [DV.int .i64 (cellA e1 1).toI, DV.int .i64 (cellA e1 2).toI, DV.int .i64 (cellA e1 3).toI, DV.int .i64 (cellA e1 4).toI, DV.int .i64 (cellA e1 5).toI, DV.int .i64 (cellA e1 6).toI, DV.int .i64 (cellA e1 7).toI]))) (rowsA (DV.sla false 7 (putL (rowsA (DV.sla false 7 M)) [DV.int .i64 (cellA e1 1).toI, DV.int .i64 (cellA e1 2).toI, DV.int .i64 (cellA e1 3).toI, DV.int .i64 (cellA e1 4).toI, DV.int .i64 (cellA e1 5).toI, DV.int .i64 (cellA e1 6).toI, DV.int .i64 (cellA e1 7).toI]))) then true else putE (rowsA (DV.sla false 7 M)) [DV.int .i64 (cellA e1 1).toI, DV.int .i64 (cellA e1 2).toI, DV.int .i64 (cellA e1 3).toI, DV.int .i64 (cellA e1 4).toI, DV.int .i64 (cellA e1 5).toI, DV.int .i64 (cellA e1 6).toI, DV.int .i64 (cellA e1 7).toI] != putE (rowsA (DV.sla false 7 M)) [DV.int .i64 (cellA e1 1).toI, DV.int .i64 (cellA e1 2).toI, DV.int .i64 (cellA e1 3).toI, DV.int .i64 (cellA e1 4).toI, DV.int .i64 (cellA e1 5).toI, DV.int .i64 (cellA e1 6).toI, DV.int .i64 (cellA e1 7).toI])
 (k .ret (St.of [(2, (.d (.bool false)))] [(158, .none)]))
 (need (FSpec.D (samP) [(.sla false 7 M), (.sl (SK.ro) 7 [])])
 (cond (!sameP (rowsA (DV.sla false 7 M)) (rowsA (DV.sl SK.ro 7 [])))
 (k .ret (St.of [(2, (.d (.bool false)))] [(158, .none)]))
 (need (FSpec.D (isPS) [(.sla false 7 (putL (rowsA (DV.sla false 7 M)) [DV.int .i64 (cellA e1 1).toI, DV.int .i64 (cellA e1 2).toI, DV.int .i64 (cellA e1 3).toI, DV.int .i64 (cellA e1 4).toI, DV.int .i64 (cellA e1 5).toI, DV.int .i64 (cellA e1 6).toI, DV.int .i64 (cellA e1 7).toI]))])
 (cond (!isP (rowsA (DV.sla false 7 (putL (rowsA (DV.sla false 7 M)) [DV.int .i64 (cellA e1 1).toI, DV.int .i64 (cellA e1 2).toI, DV.int .i64 (cellA e1 3).toI, DV.int .i64 (cellA e1 4).toI, DV.int .i64 (cellA e1 5).toI, DV.int .i64 (cellA e1 6).toI, DV.int .i64 (cellA e1 7).toI]))))
 (k .ret (St.of [(2, (.d (.bool false)))] [(158, .none)]))
 (k .nrm (St.of [(0, (.d (.sla false 8 es))), (3, (.d (.sla false 7 (putL (rowsA (DV.sla false 7 M)) [DV.int .i64 (cellA e1 1).toI, DV.int .i64 (cellA e1 2).toI, DV.int .i64 (cellA e1 3).toI, DV.int .i64 (cellA e1 4).toI, DV.int .i64 (cellA e1 5).toI, DV.int .i64 (cellA e1 6).toI, DV.int .i64 (cellA e1 7).toI])))), (4, (.d (.sla false 7 (putL (rowsA (DV.sla false 7 M)) [DV.int .i64 (cellA e1 1).toI, DV.int .i64 (cellA e1 2).toI, DV.int .i64 (cellA e1 3).toI, DV.int .i64 (cellA e1 4).toI, DV.int .i64 (cellA e1 5).toI, DV.int .i64 (cellA e1 6).toI, DV.int .i64 (cellA e1 7).toI])))), (5, (.d (.int .i64 (IntKind.i64.wrap ((↑i : Int) + (1 : Int))))))] [(52, .none), (58, .none), (69, .none), (77, .none), (90, .none), (97, .none), (106, .none), (113, .none), (124, .none), (133, .none)]))))))))))
 (cond ((cellA e5 0).toI == (2 : Int))
 (need (FSpec.D (drpS) [(.sla false 7 M), (.int .i64 ((cellA e1 1).toI))])
 (need (FSpec.D (drpS) [(.sla false 7 M), (.int .i64 ((cellA e1 1).toI))])
 (cond (!((cellA (dropP (rowsA (DV.sla false 7 M)) (cellA e1 1).toI) (0 : Nat)).toI == (cellA (dropP (rowsA (DV.sla false 7 M)) (cellA e1 1).toI) (0 : Nat)).toI && ((cellA (dropP (rowsA (DV.sla false 7 M)) (cellA e1 1).toI) (1 : Nat)).toI == (cellA (dropP (rowsA (DV.sla false 7 M)) (cellA e1 1).toI) (1 : Nat)).toI && ((cellA (dropP (rowsA (DV.sla false 7 M)) (cellA e1 1).toI) (2 : Nat)).toI == (cellA (dropP (rowsA (DV.sla false 7 M)) (cellA e1 1).toI) (2 : Nat)).toI && ((cellA (dropP (rowsA (DV.sla false 7 M)) (cellA e1 1).toI) (3 : Nat)).toI == (cellA (dropP (rowsA (DV.sla false 7 M)) (cellA e1 1).toI) (3 : Nat)).toI && ((cellA (dropP (rowsA (DV.sla false 7 M)) (cellA e1 1).toI) (4 : Nat)).toI == (cellA (dropP (rowsA (DV.sla false 7 M)) (cellA e1 1).toI) (4 : Nat)).toI && ((cellA (dropP (rowsA (DV.sla false 7 M)) (cellA e1 1).toI) (5 : Nat)).toI == (cellA (dropP (rowsA (DV.sla false 7 M)) (cellA e1 1).toI) (5 : Nat)).toI && ((cellA (dropP (rowsA (DV.sla false 7 M)) (cellA e1 1).toI) (6 : Nat)).toI == (cellA (dropP (rowsA (DV.sla false 7 M)) (cellA e1 1).toI) (6 : Nat)).toI && true))))))))
 (k .ret (St.of [(2, (.d (.bool false)))] [(158, .none)]))
 (need (FSpec.D (samP) [(.sla false 7 (dropL (rowsA (DV.sla false 7 M)) (cellA e1 1).toI)), (.sla false 7 (dropL (rowsA (DV.sla false 7 M)) (cellA e1 1).toI))])
 (cond (bif !sameP (rowsA (DV.sla false 7 (dropL (rowsA (DV.sla false 7 M)) (cellA e1 1).toI))) (rowsA (DV.sla false 7 (dropL (rowsA (DV.sla false 7 M)) (cellA e1 1).toI))) then true else dropE (rowsA (DV.sla false 7 M)) (cellA e1 1).toI != dropE (rowsA (DV.sla false 7 M)) (cellA e1 1).toI)
 (k .ret (St.of [(2, (.d (.bool false)))] [(158, .none)]))
 (need (FSpec.D (samP) [(.sla false 7 M), (.sl (SK.ro) 7 [])])
 (cond (!sameP (rowsA (DV.sla false 7 M)) (rowsA (DV.sl SK.ro 7 [])))
 (k .ret (St.of [(2, (.d (.bool false)))] [(158, .none)]))
 (need (FSpec.D (isPS) [(.sla false 7 (dropL (rowsA (DV.sla false 7 M)) (cellA e1 1).toI))])
 (cond (!isP (rowsA (DV.sla false 7 (dropL (rowsA (DV.sla false 7 M)) (cellA e1 1).toI))))
 (k .ret (St.of [(2, (.d (.bool false)))] [(158, .none)]))
 (k .nrm (St.of [(0, (.d (.sla false 8 es))), (3, (.d (.sla false 7 (dropL (rowsA (DV.sla false 7 M)) (cellA e1 1).toI)))), (4, (.d (.sla false 7 (dropL (rowsA (DV.sla false 7 M)) (cellA e1 1).toI)))), (5, (.d (.int .i64 (IntKind.i64.wrap ((↑i : Int) + (1 : Int))))))] [(52, .none), (58, .none), (69, .none), (77, .none), (90, .none), (97, .none), (106, .none), (113, .none), (124, .none), (133, .none)])))))))))))
 (cond ((cellA e5 0).toI == (3 : Int))
 (need (FSpec.D (frnS) [(.sla false 7 M), (.int .i64 ((cellA e1 1).toI))])
 (need (FSpec.D (frnS) [(.sla false 7 M), (.int .i64 ((cellA e1 1).toI))])
 (need (FSpec.D (samP) [(.sla false 7 (frnL (rowsA (DV.sla false 7 M)) (cellA e1 1).toI)), (.sla false 7 (frnL (rowsA (DV.sla false 7 M)) (cellA e1 1).toI))])
 (cond (bif !sameP (rowsA (DV.sla false 7 (frnL (rowsA (DV.sla false 7 M)) (cellA e1 1).toI))) (rowsA (DV.sla false 7 (frnL (rowsA (DV.sla false 7 M)) (cellA e1 1).toI))) then true else frnE (rowsA (DV.sla false 7 M)) (cellA e1 1).toI != frnE (rowsA (DV.sla false 7 M)) (cellA e1 1).toI)
 (k .ret (St.of [(2, (.d (.bool false)))] [(158, .none)]))
 (need (FSpec.D (samP) [(.sla false 7 M), (.sl (SK.ro) 7 [])])
 (cond (!sameP (rowsA (DV.sla false 7 M)) (rowsA (DV.sl SK.ro 7 [])))
 (k .ret (St.of [(2, (.d (.bool false)))] [(158, .none)]))
 (need (FSpec.D (isPS) [(.sla false 7 (frnL (rowsA (DV.sla false 7 M)) (cellA e1 1).toI))])
 (cond (!isP (rowsA (DV.sla false 7 (frnL (rowsA (DV.sla false 7 M)) (cellA e1 1).toI))))
 (k .ret (St.of [(2, (.d (.bool false)))] [(158, .none)]))
 (k .nrm (St.of [(0, (.d (.sla false 8 es))), (3, (.d (.sla false 7 (frnL (rowsA (DV.sla false 7 M)) (cellA e1 1).toI)))), (4, (.d (.sla false 7 (frnL (rowsA (DV.sla false 7 M)) (cellA e1 1).toI)))), (5, (.d (.int .i64 (IntKind.i64.wrap ((↑i : Int) + (1 : Int))))))] [(52, .none), (58, .none), (69, .none), (77, .none), (90, .none), (97, .none), (106, .none), (113, .none), (124, .none), (133, .none)]))))))))))
 (cond ((cellA e5 0).toI == (4 : Int))
 (need (FSpec.D (bakS) [(.sla false 7 M), (.int .i64 ((cellA e1 1).toI))])
 (need (FSpec.D (bkdS) [(.sla false 7 M), (.int .i64 ((cellA e1 1).toI))])
 (need (FSpec.D (samP) [(.sla false 7 (bakL (rowsA (DV.sla false 7 M)) (cellA e1 1).toI)), (.sla false 7 (bakL (rowsA (DV.sla false 7 M)) (cellA e1 1).toI))])
 (cond (bif !sameP (rowsA (DV.sla false 7 (bakL (rowsA (DV.sla false 7 M)) (cellA e1 1).toI))) (rowsA (DV.sla false 7 (bakL (rowsA (DV.sla false 7 M)) (cellA e1 1).toI))) then true else bakE (rowsA (DV.sla false 7 M)) (cellA e1 1).toI != bakE (rowsA (DV.sla false 7 M)) (cellA e1 1).toI)
 (k .ret (St.of [(2, (.d (.bool false)))] [(158, .none)]))
 (need (FSpec.D (samP) [(.sla false 7 M), (.sl (SK.ro) 7 [])])
 (cond (!sameP (rowsA (DV.sla false 7 M)) (rowsA (DV.sl SK.ro 7 [])))
 (k .ret (St.of [(2, (.d (.bool false)))] [(158, .none)]))
 (need (FSpec.D (isPS) [(.sla false 7 (bakL (rowsA (DV.sla false 7 M)) (cellA e1 1).toI))])
 (cond (!isP (rowsA (DV.sla false 7 (bakL (rowsA (DV.sla false 7 M)) (cellA e1 1).toI))))
 (k .ret (St.of [(2, (.d (.bool false)))] [(158, .none)]))
 (k .nrm (St.of [(0, (.d (.sla false 8 es))), (3, (.d (.sla false 7 (bakL (rowsA (DV.sla false 7 M)) (cellA e1 1).toI)))), (4, (.d (.sla false 7 (bakL (rowsA (DV.sla false 7 M)) (cellA e1 1).toI)))), (5, (.d (.int .i64 (IntKind.i64.wrap ((↑i : Int) + (1 : Int))))))] [(52, .none), (58, .none), (69, .none), (77, .none), (90, .none), (97, .none), (106, .none), (113, .none), (124, .none), (133, .none)]))))))))))
 (cond ((cellA e5 0).toI == (5 : Int))
 (need (FSpec.D (clsS) [(.sla false 7 M), (.int .i64 ((cellA e1 1).toI)), (.int .i64 ((cellA e1 5).toI))])
 (need (FSpec.D (cldS) [(.sla false 7 M), (.int .i64 ((cellA e1 1).toI)), (.int .i64 ((cellA e1 5).toI))])
 (need (FSpec.D (samP) [(.sla false 7 (clsL (rowsA (DV.sla false 7 M)) (cellA e1 1).toI (cellA e1 5).toI)), (.sla false 7 (clsL (rowsA (DV.sla false 7 M)) (cellA e1 1).toI (cellA e1 5).toI))])
 (cond (bif !sameP (rowsA (DV.sla false 7 (clsL (rowsA (DV.sla false 7 M)) (cellA e1 1).toI (cellA e1 5).toI))) (rowsA (DV.sla false 7 (clsL (rowsA (DV.sla false 7 M)) (cellA e1 1).toI (cellA e1 5).toI))) then true else clsE (rowsA (DV.sla false 7 M)) (cellA e1 1).toI (cellA e1 5).toI != clsE (rowsA (DV.sla false 7 M)) (cellA e1 1).toI (cellA e1 5).toI)
 (k .ret (St.of [(2, (.d (.bool false)))] [(158, .none)]))
 (need (FSpec.D (samP) [(.sla false 7 M), (.sl (SK.ro) 7 [])])
 (cond (!sameP (rowsA (DV.sla false 7 M)) (rowsA (DV.sl SK.ro 7 [])))
 (k .ret (St.of [(2, (.d (.bool false)))] [(158, .none)]))
 (need (FSpec.D (isPS) [(.sla false 7 (clsL (rowsA (DV.sla false 7 M)) (cellA e1 1).toI (cellA e1 5).toI))])
 (cond (!isP (rowsA (DV.sla false 7 (clsL (rowsA (DV.sla false 7 M)) (cellA e1 1).toI (cellA e1 5).toI))))
 (k .ret (St.of [(2, (.d (.bool false)))] [(158, .none)]))
 (k .nrm (St.of [(0, (.d (.sla false 8 es))), (3, (.d (.sla false 7 (clsL (rowsA (DV.sla false 7 M)) (cellA e1 1).toI (cellA e1 5).toI)))), (4, (.d (.sla false 7 (clsL (rowsA (DV.sla false 7 M)) (cellA e1 1).toI (cellA e1 5).toI)))), (5, (.d (.int .i64 (IntKind.i64.wrap ((↑i : Int) + (1 : Int))))))] [(52, .none), (58, .none), (69, .none), (77, .none), (90, .none), (97, .none), (106, .none), (113, .none), (124, .none), (133, .none)]))))))))))
 (need (FSpec.D (fndS) [(.sla false 7 M), (.int .i64 ((cellA e1 1).toI))])
 (need (FSpec.D (fndS) [(.sla false 7 M), (.int .i64 ((cellA e1 1).toI))])
 (cond (fI (rowsA (DV.sla false 7 M)) (cellA e1 1).toI != fI (rowsA (DV.sla false 7 M)) (cellA e1 1).toI)
 (k .ret (St.of [(2, (.d (.bool false)))] [(158, .none)]))
 (need (FSpec.D (samP) [(.sla false 7 M), (.sla false 7 M)])
 (cond (bif !sameP (rowsA (DV.sla false 7 M)) (rowsA (DV.sla false 7 M)) then true else false)
 (k .ret (St.of [(2, (.d (.bool false)))] [(158, .none)]))
 (need (FSpec.D (samP) [(.sla false 7 M), (.sl (SK.ro) 7 [])])
 (cond (!sameP (rowsA (DV.sla false 7 M)) (rowsA (DV.sl SK.ro 7 [])))
 (k .ret (St.of [(2, (.d (.bool false)))] [(158, .none)]))
 (need (FSpec.D (isPS) [(.sla false 7 M)])
 (cond (!isP (rowsA (DV.sla false 7 M)))
 (k .ret (St.of [(2, (.d (.bool false)))] [(158, .none)]))
 (k .nrm (St.of [(0, (.d (.sla false 8 es))), (3, (.d (.sla false 7 M))), (4, (.d (.sla false 7 M))), (5, (.d (.int .i64 (IntKind.i64.wrap ((↑i : Int) + (1 : Int))))))] [(52, .none), (58, .none), (69, .none), (77, .none), (90, .none), (97, .none), (106, .none), (113, .none), (124, .none), (133, .none)]))))))))))))))))
 none))
 (cond (M.all fun (e : List DV) => e.length == (7 : Nat) && e.all DV.one)
 (cond (decide ((38 : Nat) = (38 : Nat) ∧ (7 : Nat) = (7 : Nat) ∧ (7 : Nat) = (7 : Nat) ∧ (0 : Nat) = (0 : Nat) ∧ (0 : Nat) = (0 : Nat) ∧ M.length * (56 : Nat) ≤ room ∧ M.length ≤ room))
 (lookK (es[(↑i : Int).toNat]?)
 fun e7 =>
 (cond (okRow [DV.int .i64 0, DV.int .i64 0, DV.int .i64 0, DV.int .i64 0, DV.int .i64 0, DV.int .i64 0, DV.int .i64 0, DV.int .i64 0] e7)
 (cond ((cellA e7 0).toI == (1 : Int))
 (need (FSpec.D (putS) [(.sla false 7 M), (.agg [(.int .i64 ((cellA e1 1).toI)), (.int .i64 ((cellA e1 2).toI)), (.int .i64 ((cellA e1 3).toI)), (.int .i64 ((cellA e1 4).toI)), (.int .i64 ((cellA e1 5).toI)), (.int .i64 ((cellA e1 6).toI)), (.int .i64 ((cellA e1 7).toI))])])
 (need (FSpec.D (putS) [(.sla false 7 M), (.agg [(.int .i64 ((cellA e1 1).toI)), (.int .i64 ((cellA e1 2).toI)), (.int .i64 ((cellA e1 3).toI)), (.int .i64 ((cellA e1 4).toI)), (.int .i64 ((cellA e1 5).toI)), (.int .i64 ((cellA e1 6).toI)), (.int .i64 ((cellA e1 7).toI))])])
 (need (FSpec.D (samP) [(.sla false 7 (putL (rowsA (DV.sla false 7 M)) [DV.int .i64 (cellA e1 1).toI, DV.int .i64 (cellA e1 2).toI, DV.int .i64 (cellA e1 3).toI, DV.int .i64 (cellA e1 4).toI, DV.int .i64 (cellA e1 5).toI, DV.int .i64 (cellA e1 6).toI, DV.int .i64 (cellA e1 7).toI])), (.sla false 7 (putL (rowsA (DV.sla false 7 M)) [DV.int .i64 (cellA e1 1).toI, DV.int .i64 (cellA e1 2).toI, DV.int .i64 (cellA e1 3).toI, DV.int .i64 (cellA e1 4).toI, DV.int .i64 (cellA e1 5).toI, DV.int .i64 (cellA e1 6).toI, DV.int .i64 (cellA e1 7).toI]))])
 (cond (bif !sameP (rowsA (DV.sla false 7 (putL (rowsA (DV.sla false 7 M)) [DV.int .i64 (cellA e1 1).toI, DV.int .i64 (cellA e1 2).toI, DV.int .i64 (cellA e1 3).toI, DV.int .i64 (cellA e1 4).toI, DV.int .i64 (cellA e1 5).toI, DV.int .i64 (cellA e1 6).toI, DV.int .i64 (cellA e1 7).toI]))) (rowsA (DV.sla false 7 (putL (rowsA (DV.sla false 7 M)) [DV.int .i64 (cellA e1 1).toI, DV.int .i64 (cellA e1 2).toI, DV.int .i64 (cellA e1 3).toI, DV.int .i64 (cellA e1 4).toI, DV.int .i64 (cellA e1 5).toI, DV.int .i64 (cellA e1 6).toI, DV.int .i64 (cellA e1 7).toI]))) then true else putE (rowsA (DV.sla false 7 M)) [DV.int .i64 (cellA e1 1).toI, DV.int .i64 (cellA e1 2).toI, DV.int .i64 (cellA e1 3).toI, DV.int .i64 (cellA e1 4).toI, DV.int .i64 (cellA e1 5).toI, DV.int .i64 (cellA e1 6).toI, DV.int .i64 (cellA e1 7).toI] != putE (rowsA (DV.sla false 7 M)) [DV.int .i64 (cellA e1 1).toI, DV.int .i64 (cellA e1 2).toI, DV.int .i64 (cellA e1 3).toI, DV.int .i64 (cellA e1 4).toI, DV.int .i64 (cellA e1 5).toI, DV.int .i64 (cellA e1 6).toI, DV.int .i64 (cellA e1 7).toI])
 (k .ret (St.of [(2, (.d (.bool false)))] [(158, .none)]))
 (cond (decide ((0 : Nat) + M.length ≤ M.length))
 (need (FSpec.D (samP) [(.sla false 7 M), (.sl (SK.ro) 7 (List.take M.length M))])
 (cond (!sameP (rowsA (DV.sla false 7 M)) (rowsA (DV.sl SK.ro 7 (List.take M.length M))))
 (k .ret (St.of [(2, (.d (.bool false)))] [(158, .none)]))
 (need (FSpec.D (isPS) [(.sla false 7 (putL (rowsA (DV.sla false 7 M)) [DV.int .i64 (cellA e1 1).toI, DV.int .i64 (cellA e1 2).toI, DV.int .i64 (cellA e1 3).toI, DV.int .i64 (cellA e1 4).toI, DV.int .i64 (cellA e1 5).toI, DV.int .i64 (cellA e1 6).toI, DV.int .i64 (cellA e1 7).toI]))])
 (cond (!isP (rowsA (DV.sla false 7 (putL (rowsA (DV.sla false 7 M)) [DV.int .i64 (cellA e1 1).toI, DV.int .i64 (cellA e1 2).toI, DV.int .i64 (cellA e1 3).toI, DV.int .i64 (cellA e1 4).toI, DV.int .i64 (cellA e1 5).toI, DV.int .i64 (cellA e1 6).toI, DV.int .i64 (cellA e1 7).toI]))))
 (k .ret (St.of [(2, (.d (.bool false)))] [(158, .none)]))
 (k .nrm (St.of [(0, (.d (.sla false 8 es))), (3, (.d (.sla false 7 (putL (rowsA (DV.sla false 7 M)) [DV.int .i64 (cellA e1 1).toI, DV.int .i64 (cellA e1 2).toI, DV.int .i64 (cellA e1 3).toI, DV.int .i64 (cellA e1 4).toI, DV.int .i64 (cellA e1 5).toI, DV.int .i64 (cellA e1 6).toI, DV.int .i64 (cellA e1 7).toI])))), (4, (.d (.sla false 7 (putL (rowsA (DV.sla false 7 M)) [DV.int .i64 (cellA e1 1).toI, DV.int .i64 (cellA e1 2).toI, DV.int .i64 (cellA e1 3).toI, DV.int .i64 (cellA e1 4).toI, DV.int .i64 (cellA e1 5).toI, DV.int .i64 (cellA e1 6).toI, DV.int .i64 (cellA e1 7).toI])))), (5, (.d (.int .i64 (IntKind.i64.wrap ((↑i : Int) + (1 : Int))))))] [(52, .none), (58, .none), (69, .none), (77, .none), (90, .none), (97, .none), (106, .none), (113, .none), (124, .none), (133, .none)]))))))
 none)))))
 (cond ((cellA e7 0).toI == (2 : Int))
 (need (FSpec.D (drpS) [(.sla false 7 M), (.int .i64 ((cellA e1 1).toI))])
 (need (FSpec.D (drpS) [(.sla false 7 M), (.int .i64 ((cellA e1 1).toI))])
 (cond (!((cellA (dropP (rowsA (DV.sla false 7 M)) (cellA e1 1).toI) (0 : Nat)).toI == (cellA (dropP (rowsA (DV.sla false 7 M)) (cellA e1 1).toI) (0 : Nat)).toI && ((cellA (dropP (rowsA (DV.sla false 7 M)) (cellA e1 1).toI) (1 : Nat)).toI == (cellA (dropP (rowsA (DV.sla false 7 M)) (cellA e1 1).toI) (1 : Nat)).toI && ((cellA (dropP (rowsA (DV.sla false 7 M)) (cellA e1 1).toI) (2 : Nat)).toI == (cellA (dropP (rowsA (DV.sla false 7 M)) (cellA e1 1).toI) (2 : Nat)).toI && ((cellA (dropP (rowsA (DV.sla false 7 M)) (cellA e1 1).toI) (3 : Nat)).toI == (cellA (dropP (rowsA (DV.sla false 7 M)) (cellA e1 1).toI) (3 : Nat)).toI && ((cellA (dropP (rowsA (DV.sla false 7 M)) (cellA e1 1).toI) (4 : Nat)).toI == (cellA (dropP (rowsA (DV.sla false 7 M)) (cellA e1 1).toI) (4 : Nat)).toI && ((cellA (dropP (rowsA (DV.sla false 7 M)) (cellA e1 1).toI) (5 : Nat)).toI == (cellA (dropP (rowsA (DV.sla false 7 M)) (cellA e1 1).toI) (5 : Nat)).toI && ((cellA (dropP (rowsA (DV.sla false 7 M)) (cellA e1 1).toI) (6 : Nat)).toI == (cellA (dropP (rowsA (DV.sla false 7 M)) (cellA e1 1).toI) (6 : Nat)).toI && true))))))))
 (k .ret (St.of [(2, (.d (.bool false)))] [(158, .none)]))
 (need (FSpec.D (samP) [(.sla false 7 (dropL (rowsA (DV.sla false 7 M)) (cellA e1 1).toI)), (.sla false 7 (dropL (rowsA (DV.sla false 7 M)) (cellA e1 1).toI))])
 (cond (bif !sameP (rowsA (DV.sla false 7 (dropL (rowsA (DV.sla false 7 M)) (cellA e1 1).toI))) (rowsA (DV.sla false 7 (dropL (rowsA (DV.sla false 7 M)) (cellA e1 1).toI))) then true else dropE (rowsA (DV.sla false 7 M)) (cellA e1 1).toI != dropE (rowsA (DV.sla false 7 M)) (cellA e1 1).toI)
 (k .ret (St.of [(2, (.d (.bool false)))] [(158, .none)]))
 (cond (decide ((0 : Nat) + M.length ≤ M.length))
 (need (FSpec.D (samP) [(.sla false 7 M), (.sl (SK.ro) 7 (List.take M.length M))])
 (cond (!sameP (rowsA (DV.sla false 7 M)) (rowsA (DV.sl SK.ro 7 (List.take M.length M))))
 (k .ret (St.of [(2, (.d (.bool false)))] [(158, .none)]))
 (need (FSpec.D (isPS) [(.sla false 7 (dropL (rowsA (DV.sla false 7 M)) (cellA e1 1).toI))])
 (cond (!isP (rowsA (DV.sla false 7 (dropL (rowsA (DV.sla false 7 M)) (cellA e1 1).toI))))
 (k .ret (St.of [(2, (.d (.bool false)))] [(158, .none)]))
 (k .nrm (St.of [(0, (.d (.sla false 8 es))), (3, (.d (.sla false 7 (dropL (rowsA (DV.sla false 7 M)) (cellA e1 1).toI)))), (4, (.d (.sla false 7 (dropL (rowsA (DV.sla false 7 M)) (cellA e1 1).toI)))), (5, (.d (.int .i64 (IntKind.i64.wrap ((↑i : Int) + (1 : Int))))))] [(52, .none), (58, .none), (69, .none), (77, .none), (90, .none), (97, .none), (106, .none), (113, .none), (124, .none), (133, .none)]))))))
 none))))))
 (cond ((cellA e7 0).toI == (3 : Int))
 (need (FSpec.D (frnS) [(.sla false 7 M), (.int .i64 ((cellA e1 1).toI))])
 (need (FSpec.D (frnS) [(.sla false 7 M), (.int .i64 ((cellA e1 1).toI))])
 (need (FSpec.D (samP) [(.sla false 7 (frnL (rowsA (DV.sla false 7 M)) (cellA e1 1).toI)), (.sla false 7 (frnL (rowsA (DV.sla false 7 M)) (cellA e1 1).toI))])
 (cond (bif !sameP (rowsA (DV.sla false 7 (frnL (rowsA (DV.sla false 7 M)) (cellA e1 1).toI))) (rowsA (DV.sla false 7 (frnL (rowsA (DV.sla false 7 M)) (cellA e1 1).toI))) then true else frnE (rowsA (DV.sla false 7 M)) (cellA e1 1).toI != frnE (rowsA (DV.sla false 7 M)) (cellA e1 1).toI)
 (k .ret (St.of [(2, (.d (.bool false)))] [(158, .none)]))
 (cond (decide ((0 : Nat) + M.length ≤ M.length))
 (need (FSpec.D (samP) [(.sla false 7 M), (.sl (SK.ro) 7 (List.take M.length M))])
 (cond (!sameP (rowsA (DV.sla false 7 M)) (rowsA (DV.sl SK.ro 7 (List.take M.length M))))
 (k .ret (St.of [(2, (.d (.bool false)))] [(158, .none)]))
 (need (FSpec.D (isPS) [(.sla false 7 (frnL (rowsA (DV.sla false 7 M)) (cellA e1 1).toI))])
 (cond (!isP (rowsA (DV.sla false 7 (frnL (rowsA (DV.sla false 7 M)) (cellA e1 1).toI))))
 (k .ret (St.of [(2, (.d (.bool false)))] [(158, .none)]))
 (k .nrm (St.of [(0, (.d (.sla false 8 es))), (3, (.d (.sla false 7 (frnL (rowsA (DV.sla false 7 M)) (cellA e1 1).toI)))), (4, (.d (.sla false 7 (frnL (rowsA (DV.sla false 7 M)) (cellA e1 1).toI)))), (5, (.d (.int .i64 (IntKind.i64.wrap ((↑i : Int) + (1 : Int))))))] [(52, .none), (58, .none), (69, .none), (77, .none), (90, .none), (97, .none), (106, .none), (113, .none), (124, .none), (133, .none)]))))))
 none)))))
 (cond ((cellA e7 0).toI == (4 : Int))
 (need (FSpec.D (bakS) [(.sla false 7 M), (.int .i64 ((cellA e1 1).toI))])
 (need (FSpec.D (bkdS) [(.sla false 7 M), (.int .i64 ((cellA e1 1).toI))])
 (need (FSpec.D (samP) [(.sla false 7 (bakL (rowsA (DV.sla false 7 M)) (cellA e1 1).toI)), (.sla false 7 (bakL (rowsA (DV.sla false 7 M)) (cellA e1 1).toI))])
 (cond (bif !sameP (rowsA (DV.sla false 7 (bakL (rowsA (DV.sla false 7 M)) (cellA e1 1).toI))) (rowsA (DV.sla false 7 (bakL (rowsA (DV.sla false 7 M)) (cellA e1 1).toI))) then true else bakE (rowsA (DV.sla false 7 M)) (cellA e1 1).toI != bakE (rowsA (DV.sla false 7 M)) (cellA e1 1).toI)
 (k .ret (St.of [(2, (.d (.bool false)))] [(158, .none)]))
 (cond (decide ((0 : Nat) + M.length ≤ M.length))
 (need (FSpec.D (samP) [(.sla false 7 M), (.sl (SK.ro) 7 (List.take M.length M))])
 (cond (!sameP (rowsA (DV.sla false 7 M)) (rowsA (DV.sl SK.ro 7 (List.take M.length M))))
 (k .ret (St.of [(2, (.d (.bool false)))] [(158, .none)]))
 (need (FSpec.D (isPS) [(.sla false 7 (bakL (rowsA (DV.sla false 7 M)) (cellA e1 1).toI))])
 (cond (!isP (rowsA (DV.sla false 7 (bakL (rowsA (DV.sla false 7 M)) (cellA e1 1).toI))))
 (k .ret (St.of [(2, (.d (.bool false)))] [(158, .none)]))
 (k .nrm (St.of [(0, (.d (.sla false 8 es))), (3, (.d (.sla false 7 (bakL (rowsA (DV.sla false 7 M)) (cellA e1 1).toI)))), (4, (.d (.sla false 7 (bakL (rowsA (DV.sla false 7 M)) (cellA e1 1).toI)))), (5, (.d (.int .i64 (IntKind.i64.wrap ((↑i : Int) + (1 : Int))))))] [(52, .none), (58, .none), (69, .none), (77, .none), (90, .none), (97, .none), (106, .none), (113, .none), (124, .none), (133, .none)]))))))
 none)))))
 (cond ((cellA e7 0).toI == (5 : Int))
 (need (FSpec.D (clsS) [(.sla false 7 M), (.int .i64 ((cellA e1 1).toI)), (.int .i64 ((cellA e1 5).toI))])
 (need (FSpec.D (cldS) [(.sla false 7 M), (.int .i64 ((cellA e1 1).toI)), (.int .i64 ((cellA e1 5).toI))])
 (need (FSpec.D (samP) [(.sla false 7 (clsL (rowsA (DV.sla false 7 M)) (cellA e1 1).toI (cellA e1 5).toI)), (.sla false 7 (clsL (rowsA (DV.sla false 7 M)) (cellA e1 1).toI (cellA e1 5).toI))])
 (cond (bif !sameP (rowsA (DV.sla false 7 (clsL (rowsA (DV.sla false 7 M)) (cellA e1 1).toI (cellA e1 5).toI))) (rowsA (DV.sla false 7 (clsL (rowsA (DV.sla false 7 M)) (cellA e1 1).toI (cellA e1 5).toI))) then true else clsE (rowsA (DV.sla false 7 M)) (cellA e1 1).toI (cellA e1 5).toI != clsE (rowsA (DV.sla false 7 M)) (cellA e1 1).toI (cellA e1 5).toI)
 (k .ret (St.of [(2, (.d (.bool false)))] [(158, .none)]))
 (cond (decide ((0 : Nat) + M.length ≤ M.length))
 (need (FSpec.D (samP) [(.sla false 7 M), (.sl (SK.ro) 7 (List.take M.length M))])
 (cond (!sameP (rowsA (DV.sla false 7 M)) (rowsA (DV.sl SK.ro 7 (List.take M.length M))))
 (k .ret (St.of [(2, (.d (.bool false)))] [(158, .none)]))
 (need (FSpec.D (isPS) [(.sla false 7 (clsL (rowsA (DV.sla false 7 M)) (cellA e1 1).toI (cellA e1 5).toI))])
 (cond (!isP (rowsA (DV.sla false 7 (clsL (rowsA (DV.sla false 7 M)) (cellA e1 1).toI (cellA e1 5).toI))))
 (k .ret (St.of [(2, (.d (.bool false)))] [(158, .none)]))
 (k .nrm (St.of [(0, (.d (.sla false 8 es))), (3, (.d (.sla false 7 (clsL (rowsA (DV.sla false 7 M)) (cellA e1 1).toI (cellA e1 5).toI)))), (4, (.d (.sla false 7 (clsL (rowsA (DV.sla false 7 M)) (cellA e1 1).toI (cellA e1 5).toI)))), (5, (.d (.int .i64 (IntKind.i64.wrap ((↑i : Int) + (1 : Int))))))] [(52, .none), (58, .none), (69, .none), (77, .none), (90, .none), (97, .none), (106, .none), (113, .none), (124, .none), (133, .none)]))))))
 none)))))
 (need (FSpec.D (fndS) [(.sla false 7 M), (.int .i64 ((cellA e1 1).toI))])
 (need (FSpec.D (fndS) [(.sla false 7 M), (.int .i64 ((cellA e1 1).toI))])
 (cond (fI (rowsA (DV.sla false 7 M)) (cellA e1 1).toI != fI (rowsA (DV.sla false 7 M)) (cellA e1 1).toI)
 (k .ret (St.of [(2, (.d (.bool false)))] [(158, .none)]))
 (need (FSpec.D (samP) [(.sla false 7 M), (.sla false 7 M)])
 (cond (bif !sameP (rowsA (DV.sla false 7 M)) (rowsA (DV.sla false 7 M)) then true else false)
 (k .ret (St.of [(2, (.d (.bool false)))] [(158, .none)]))
 (cond (decide ((0 : Nat) + M.length ≤ M.length))
 (need (FSpec.D (samP) [(.sla false 7 M), (.sl (SK.ro) 7 (List.take M.length M))])
 (cond (!sameP (rowsA (DV.sla false 7 M)) (rowsA (DV.sl SK.ro 7 (List.take M.length M))))
 (k .ret (St.of [(2, (.d (.bool false)))] [(158, .none)]))
 (need (FSpec.D (isPS) [(.sla false 7 M)])
 (cond (!isP (rowsA (DV.sla false 7 M)))
 (k .ret (St.of [(2, (.d (.bool false)))] [(158, .none)]))
 (k .nrm (St.of [(0, (.d (.sla false 8 es))), (3, (.d (.sla false 7 M))), (4, (.d (.sla false 7 M))), (5, (.d (.int .i64 (IntKind.i64.wrap ((↑i : Int) + (1 : Int))))))] [(52, .none), (58, .none), (69, .none), (77, .none), (90, .none), (97, .none), (106, .none), (113, .none), (124, .none), (133, .none)]))))))
 none)))))))))))
 none))
 none)
 none))
 none))
 (k (.ex 0) (St.of [] []))) from by kernel_rfl).trans (by first | rfl | (simp only [decide_true, decide_false, eq_self, and_true, true_and, and_self, cond_true, cond_false, Nat.le_refl, Int.le_refl, Option.getD_some, Option.getD_none, Int.toNat_natCast, List.take_length, List.drop_zero, Nat.zero_add, List.nil_append, List.all_nil, List.append_nil, Bool.true_and, Bool.and_true, rowsA_sla, rowsA_sl, rowsA_nil, minus_zero, nat_le_cast, nat_nonneg, Option.isSome_some, Option.isSome_none, Bool.false_eq_true, false_and, and_false, if_true, if_false, implies_true, Int.toNat_zero, Bool.not_false, Bool.not_true, bne_self_eq_false]; done) | (simp only [decide_true, decide_false, eq_self, and_true, true_and, and_self, cond_true, cond_false, Nat.le_refl, Int.le_refl, Option.getD_some, Option.getD_none, Int.toNat_natCast, List.take_length, List.drop_zero, Nat.zero_add, List.nil_append, List.all_nil, List.append_nil, Bool.true_and, Bool.and_true, rowsA_sla, rowsA_sl, rowsA_nil, minus_zero, nat_le_cast, nat_nonneg, Option.isSome_some, Option.isSome_none, Bool.false_eq_true, false_and, and_false, if_true, if_false, implies_true, Int.toNat_zero, Bool.not_false, Bool.not_true, bne_self_eq_false]; rfl))
theorem s100n (L n : Nat) (es : List (List DV)) (i : Nat) (k : Kont) : LB tab spS7 l10 L (n+4) h100 c10l0 (S100 es .nilsl .nilsl i) k =
   (bif decide ((↑i : Int) < (↑es.length : Int)) then
 lookK es[i]? fun (e1 : List DV) =>
 bif
 okRow
 [DV.int .i64 0, DV.int .i64 0, DV.int .i64 0, DV.int .i64 0, DV.int .i64 0, DV.int .i64 0, DV.int .i64 0, DV.int .i64 0]
 e1 then
 lookK es[i]? fun (e4 : List DV) =>
 bif
 okRow
 [DV.int .i64 0, DV.int .i64 0, DV.int .i64 0, DV.int .i64 0, DV.int .i64 0, DV.int .i64 0, DV.int .i64 0, DV.int .i64 0]
 e4 then
 bif (cellA e4 0).toI == (1 : Int) then
 need
 (putS.D
 [DV.nilsl,
 DV.agg
 [DV.int .i64 (cellA e1 1).toI, DV.int .i64 (cellA e1 2).toI, DV.int .i64 (cellA e1 3).toI, DV.int .i64 (cellA e1 4).toI, DV.int .i64 (cellA e1 5).toI, DV.int .i64 (cellA e1 6).toI, DV.int .i64 (cellA e1 7).toI]])
 (need
 (putS.D
 [DV.nilsl,
 DV.agg
 [DV.int .i64 (cellA e1 1).toI, DV.int .i64 (cellA e1 2).toI, DV.int .i64 (cellA e1 3).toI, DV.int .i64 (cellA e1 4).toI, DV.int .i64 (cellA e1 5).toI, DV.int .i64 (cellA e1 6).toI, DV.int .i64 (cellA e1 7).toI]])
 (need
 (samP.D
 [DV.sla false 7
 [[DV.int .i64 (cellA e1 1).toI, DV.int .i64 (cellA e1 2).toI, DV.int .i64 (cellA e1 3).toI, DV.int .i64 (cellA e1 4).toI, DV.int .i64 (cellA e1 5).toI, DV.int .i64 (cellA e1 6).toI, DV.int .i64 (cellA e1 7).toI]],
 DV.sla false 7
 [[DV.int .i64 (cellA e1 1).toI, DV.int .i64 (cellA e1 2).toI, DV.int .i64 (cellA e1 3).toI, DV.int .i64 (cellA e1 4).toI, DV.int .i64 (cellA e1 5).toI, DV.int .i64 (cellA e1 6).toI, DV.int .i64 (cellA e1 7).toI]]])
 (bif
 bif
 !sameP
 (putL []
 [DV.int .i64 (cellA e1 1).toI, DV.int .i64 (cellA e1 2).toI, DV.int .i64 (cellA e1 3).toI, DV.int .i64 (cellA e1 4).toI, DV.int .i64 (cellA e1 5).toI, DV.int .i64 (cellA e1 6).toI, DV.int .i64 (cellA e1 7).toI])
 (putL []
 [DV.int .i64 (cellA e1 1).toI, DV.int .i64 (cellA e1 2).toI, DV.int .i64 (cellA e1 3).toI, DV.int .i64 (cellA e1 4).toI, DV.int .i64 (cellA e1 5).toI, DV.int .i64 (cellA e1 6).toI, DV.int .i64 (cellA e1 7).toI]) then
 true
 else false then
 k Ex.ret (St.of [(2, AV.d (DV.bool false))] [(158, none)])
 else
 need (samP.D [DV.nilsl, DV.sl SK.ro 7 []])
 (need
 (isPS.D
 [DV.sla false 7
 [[DV.int .i64 (cellA e1 1).toI, DV.int .i64 (cellA e1 2).toI, DV.int .i64 (cellA e1 3).toI, DV.int .i64 (cellA e1 4).toI, DV.int .i64 (cellA e1 5).toI, DV.int .i64 (cellA e1 6).toI, DV.int .i64 (cellA e1 7).toI]]])
 (bif
 !isP
 (putL []
 [DV.int .i64 (cellA e1 1).toI, DV.int .i64 (cellA e1 2).toI, DV.int .i64 (cellA e1 3).toI, DV.int .i64 (cellA e1 4).toI, DV.int .i64 (cellA e1 5).toI, DV.int .i64 (cellA e1 6).toI, DV.int .i64 (cellA e1 7).toI]) then
 k Ex.ret (St.of [(2, AV.d (DV.bool false))] [(158, none)])
 else
 k Ex.nrm
 (St.of
 [(0, AV.d (DV.sla false 8 es)),
 ((3 : Nat),
 AV.d
 (DV.sla false 7
 [[DV.int .i64 (cellA e1 1).toI, DV.int .i64 (cellA e1 2).toI, DV.int .i64 (cellA e1 3).toI, DV.int .i64 (cellA e1 4).toI, DV.int .i64 (cellA e1 5).toI, DV.int .i64 (cellA e1 6).toI, DV.int .i64 (cellA e1 7).toI]])),
 ((4 : Nat),
 AV.d
 (DV.sla false 7
 [[DV.int .i64 (cellA e1 1).toI, DV.int .i64 (cellA e1 2).toI, DV.int .i64 (cellA e1 3).toI, DV.int .i64 (cellA e1 4).toI, DV.int .i64 (cellA e1 5).toI, DV.int .i64 (cellA e1 6).toI, DV.int .i64 (cellA e1 7).toI]])),
 ((5 : Nat), AV.d (DV.int .i64 (IntKind.i64.wrap ((↑i : Int) + (1 : Int)))))]
 [(52, none), (58, none), (69, none), (77, none), (90, none), (97, none),
 ((106 : Nat), none), (113, none), (124, none), (133, none)]))))))
 else
 bif (cellA e4 0).toI == (2 : Int) then
 need (drpS.D [DV.nilsl, DV.int .i64 (cellA e1 1).toI])
 (need (drpS.D [DV.nilsl, DV.int .i64 (cellA e1 1).toI])
 (need (samP.D [DV.sla false 7 [], DV.sla false 7 []])
 (need (samP.D [DV.nilsl, DV.sl SK.ro 7 []])
 (need (isPS.D [DV.sla false 7 []])
 (k Ex.nrm
 (St.of
 [(0, AV.d (DV.sla false 8 es)), (3, AV.d (DV.sla false 7 [])),
 ((4 : Nat), AV.d (DV.sla false 7 [])),
 ((5 : Nat), AV.d (DV.int .i64 (IntKind.i64.wrap ((↑i : Int) + (1 : Int)))))]
 [(52, none), (58, none), (69, none), (77, none), (90, none), (97, none),
 ((106 : Nat), none), (113, none), (124, none), (133, none)]))))))
 else
 bif (cellA e4 0).toI == (3 : Int) then
 need (frnS.D [DV.nilsl, DV.int .i64 (cellA e1 1).toI])
 (need (frnS.D [DV.nilsl, DV.int .i64 (cellA e1 1).toI])
 (need (samP.D [DV.sla false 7 [], DV.sla false 7 []])
 (need (samP.D [DV.nilsl, DV.sl SK.ro 7 []])
 (need (isPS.D [DV.sla false 7 []])
 (k Ex.nrm
 (St.of
 [(0, AV.d (DV.sla false 8 es)), (3, AV.d (DV.sla false 7 [])),
 ((4 : Nat), AV.d (DV.sla false 7 [])),
 ((5 : Nat), AV.d (DV.int .i64 (IntKind.i64.wrap ((↑i : Int) + (1 : Int)))))]
 [(52, none), (58, none), (69, none), (77, none), (90, none), (97, none),
 ((106 : Nat), none), (113, none), (124, none), (133, none)]))))))
 else
 bif (cellA e4 0).toI == (4 : Int) then
 need (bakS.D [DV.nilsl, DV.int .i64 (cellA e1 1).toI])
 (need (bkdS.D [DV.nilsl, DV.int .i64 (cellA e1 1).toI])
 (need (samP.D [DV.sla false 7 [], DV.sla false 7 []])
 (need (samP.D [DV.nilsl, DV.sl SK.ro 7 []])
 (need (isPS.D [DV.sla false 7 []])
 (k Ex.nrm
 (St.of
 [(0, AV.d (DV.sla false 8 es)), (3, AV.d (DV.sla false 7 [])),
 ((4 : Nat), AV.d (DV.sla false 7 [])),
 ((5 : Nat), AV.d (DV.int .i64 (IntKind.i64.wrap ((↑i : Int) + (1 : Int)))))]
 [(52, none), (58, none), (69, none), (77, none), (90, none), (97, none),
 ((106 : Nat), none), (113, none), (124, none), (133, none)]))))))
 else
 bif (cellA e4 0).toI == (5 : Int) then
 need (clsS.D [DV.nilsl, DV.int .i64 (cellA e1 1).toI, DV.int .i64 (cellA e1 5).toI])
 (need (cldS.D [DV.nilsl, DV.int .i64 (cellA e1 1).toI, DV.int .i64 (cellA e1 5).toI])
 (need (samP.D [DV.sla false 7 [], DV.sla false 7 []])
 (need (samP.D [DV.nilsl, DV.sl SK.ro 7 []])
 (need (isPS.D [DV.sla false 7 []])
 (k Ex.nrm
 (St.of
 [(0, AV.d (DV.sla false 8 es)), (3, AV.d (DV.sla false 7 [])),
 ((4 : Nat), AV.d (DV.sla false 7 [])),
 ((5 : Nat), AV.d (DV.int .i64 (IntKind.i64.wrap ((↑i : Int) + (1 : Int)))))]
 [(52, none), (58, none), (69, none), (77, none), (90, none), (97, none),
 ((106 : Nat), none), (113, none), (124, none), (133, none)]))))))
 else
 need (fndS.D [DV.nilsl, DV.int .i64 (cellA e1 1).toI])
 (need (fndS.D [DV.nilsl, DV.int .i64 (cellA e1 1).toI])
 (need (samP.D [DV.nilsl, DV.nilsl])
 (need (samP.D [DV.nilsl, DV.sl SK.ro 7 []])
 (need (isPS.D [DV.nilsl])
 (k Ex.nrm
 (St.of
 [(0, AV.d (DV.sla false 8 es)), (3, AV.d DV.nilsl), (4, AV.d DV.nilsl),
 ((5 : Nat), AV.d (DV.int .i64 (IntKind.i64.wrap ((↑i : Int) + (1 : Int)))))]
 [(52, none), (58, none), (69, none), (77, none), (90, none), (97, none),
 ((106 : Nat), none), (113, none), (124, none), (133, none)]))))))
 else none
 else none
 else k (Ex.ex (0 : Nat)) (St.of [] [])) :=
  (show LB tab spS7 l10 L (n+4) h100 c10l0 (S100 es .nilsl .nilsl i) k =
 (cond (decide ((↑i : Int) < (↑es.length : Int)))
 (lookK (es[(↑i : Int).toNat]?)
 fun e1 =>
 (cond (okRow [DV.int .i64 0, DV.int .i64 0, DV.int .i64 0, DV.int .i64 0, DV.int .i64 0, DV.int .i64 0, DV.int .i64 0, DV.int .i64 0] e1)
 (lookK (es[(↑i : Int).toNat]?)
 fun e4 =>
 (cond (okRow [DV.int .i64 0, DV.int .i64 0, DV.int .i64 0, DV.int .i64 0, DV.int .i64 0, DV.int .i64 0, DV.int .i64 0, DV.int .i64 0] e4)
 (cond ((cellA e4 0).toI == (1 : Int))
 (need (FSpec.D (putS) [.nilsl, (.agg [(.int .i64 ((cellA e1 1).toI)), (.int .i64 ((cellA e1 2).toI)), (.int .i64 ((cellA e1 3).toI)), (.int .i64 ((cellA e1 4).toI)), (.int .i64 ((cellA e1 5).toI)), (.int .i64 ((cellA e1 6).toI)), (.int .i64 ((cellA e1 7).toI))])])
 (need (FSpec.D (putS) [.nilsl, (.agg [(.int .i64 ((cellA e1 1).toI)), (.int .i64 ((cellA e1 2).toI)), (.int .i64 ((cellA e1 3).toI)), (.int .i64 ((cellA e1 4).toI)), (.int .i64 ((cellA e1 5).toI)), (.int .i64 ((cellA e1 6).toI)), (.int .i64 ((cellA e1 7).toI))])])
 (need (FSpec.D (samP) [(.sla false 7 [[(.int .i64 ((cellA e1 1).toI)), (.int .i64 ((cellA e1 2).toI)), (.int .i64 ((cellA e1 3).toI)), (.int .i64 ((cellA e1 4).toI)), (.int .i64 ((cellA e1 5).toI)), (.int .i64 ((cellA e1 6).toI)), (.int .i64 ((cellA e1 7).toI))]]), (.sla false 7 [[(.int .i64 ((cellA e1 1).toI)), (.int .i64 ((cellA e1 2).toI)), (.int .i64 ((cellA e1 3).toI)), (.int .i64 ((cellA e1 4).toI)), (.int .i64 ((cellA e1 5).toI)), (.int .i64 ((cellA e1 6).toI)), (.int .i64 ((cellA e1 7).toI))]])])
 (cond (bif !sameP (rowsA (DV.sla false 7 (putL (rowsA DV.nilsl) [DV.int .i64 (cellA e1 1).toI, DV.int .i64 (cellA e1 2).toI, DV.int .i64 (cellA e1 3).toI, DV.int .i64 (cellA e1 4).toI, DV.int .i64 (cellA e1 5).toI, DV.int .i64 (cellA e1 6).toI, DV.int .i64 (cellA e1 7).toI]))) (rowsA (DV.sla false 7 (putL (rowsA DV.nilsl) [DV.int .i64 (cellA e1 1).toI, DV.int .i64 (cellA e1 2).toI, DV.int .i64 (cellA e1 3).toI, DV.int .i64 (cellA e1 4).toI, DV.int .i64 (cellA e1 5).toI, DV.int .i64 (cellA e1 6).toI, DV.int .i64 (cellA e1 7).toI]))) then true else putE (rowsA DV.nilsl) [DV.int .i64 (cellA e1 1).toI, DV.int .i64 (cellA e1 2).toI, DV.int .i64 (cellA e1 3).toI, DV.int .i64 (cellA e1 4).toI, DV.int .i64 (cellA e1 5).toI, DV.int .i64 (cellA e1 6).toI, DV.int .i64 (cellA e1 7).toI] != putE (rowsA DV.nilsl) [DV.int .i64 (cellA e1 1).toI, DV.int .i64 (cellA e1 2).toI, DV.int .i64 (cellA e1 3).toI, DV.int .i64 (cellA e1 4).toI, DV.int .i64 (cellA e1 5).toI, DV.int .i64 (cellA e1 6).toI, DV.int .i64 (cellA e1 7).toI])
 (k .ret (St.of [(2, (.d (.bool false)))] [(158, .none)]))
 (need (FSpec.D (samP) [.nilsl, (.sl (SK.ro) 7 [])])
 (need (FSpec.D (isPS) [(.sla false 7 [[(.int .i64 ((cellA e1 1).toI)), (.int .i64 ((cellA e1 2).toI)), (.int .i64 ((cellA e1 3).toI)), (.int .i64 ((cellA e1 4).toI)), (.int .i64 ((cellA e1 5).toI)), (.int .i64 ((cellA e1 6).toI)), (.int .i64 ((cellA e1 7).toI))]])])
 (cond (!isP (rowsA (DV.sla false 7 (putL (rowsA DV.nilsl) [DV.int .i64 (cellA e1 1).toI, DV.int .i64 (cellA e1 2).toI, DV.int .i64 (cellA e1 3).toI, DV.int .i64 (cellA e1 4).toI, DV.int .i64 (cellA e1 5).toI, DV.int .i64 (cellA e1 6).toI, DV.int .i64 (cellA e1 7).toI]))))
 (k .ret (St.of [(2, (.d (.bool false)))] [(158, .none)]))
 (k .nrm (St.of [(0, (.d (.sla false 8 es))), (3, (.d (.sla false 7 [[(.int .i64 ((cellA e1 1).toI)), (.int .i64 ((cellA e1 2).toI)), (.int .i64 ((cellA e1 3).toI)), (.int .i64 ((cellA e1 4).toI)), (.int .i64 ((cellA e1 5).toI)), (.int .i64 ((cellA e1 6).toI)), (.int .i64 ((cellA e1 7).toI))]]))), (4, (.d (.sla false 7 [[(.int .i64 ((cellA e1 1).toI)), (.int .i64 ((cellA e1 2).toI)), (.int .i64 ((cellA e1 3).toI)), (.int .i64 ((cellA e1 4).toI)), (.int .i64 ((cellA e1 5).toI)), (.int .i64 ((cellA e1 6).toI)), (.int .i64 ((cellA e1 7).toI))]]))), (5, (.d (.int .i64 (IntKind.i64.wrap ((↑i : Int) + (1 : Int))))))] [(52, .none), (58, .none), (69, .none), (77, .none), (90, .none), (97, .none), (106, .none), (113, .none), (124, .none), (133, .none)])))))))))
 (cond ((cellA e4 0).toI == (2 : Int))
 (need (FSpec.D (drpS) [.nilsl, (.int .i64 ((cellA e1 1).toI))])
 (need (FSpec.D (drpS) [.nilsl, (.int .i64 ((cellA e1 1).toI))])
 (need (FSpec.D (samP) [(.sla false 7 []), (.sla false 7 [])])
 (need (FSpec.D (samP) [.nilsl, (.sl (SK.ro) 7 [])])
 (need (FSpec.D (isPS) [(.sla false 7 [])])
 (k .nrm (St.of [(0, (.d (.sla false 8 es))), (3, (.d (.sla false 7 []))), (4, (.d (.sla false 7 []))), (5, (.d (.int .i64 (IntKind.i64.wrap ((↑i : Int) + (1 : Int))))))] [(52, .none), (58, .none), (69, .none), (77, .none), (90, .none), (97, .none), (106, .none), (113, .none), (124, .none), (133, .none)])))))))
 (cond ((cellA e4 0).toI == (3 : Int))
 (need (FSpec.D (frnS) [.nilsl, (.int .i64 ((cellA e1 1).toI))])
 (need (FSpec.D (frnS) [.nilsl, (.int .i64 ((cellA e1 1).toI))])
 (need (FSpec.D (samP) [(.sla false 7 []), (.sla false 7 [])])
 (need (FSpec.D (samP) [.nilsl, (.sl (SK.ro) 7 [])])
 (need (FSpec.D (isPS) [(.sla false 7 [])])
 (k .nrm (St.of [(0, (.d (.sla false 8 es))), (3, (.d (.sla false 7 []))), (4, (.d (.sla false 7 []))), (5, (.d (.int .i64 (IntKind.i64.wrap ((↑i : Int) + (1 : Int))))))] [(52, .none), (58, .none), (69, .none), (77, .none), (90, .none), (97, .none), (106, .none), (113, .none), (124, .none), (133, .none)])))))))
 (cond ((cellA e4 0).toI == (4 : Int))
 (need (FSpec.D (bakS) [.nilsl, (.int .i64 ((cellA e1 1).toI))])
 (need (FSpec.D (bkdS) [.nilsl, (.int .i64 ((cellA e1 1).toI))])
 (need (FSpec.D (samP) [(.sla false 7 []), (.sla false 7 [])])
 (need (FSpec.D (samP) [.nilsl, (.sl (SK.ro) 7 [])])
 (need (FSpec.D (isPS) [(.sla false 7 [])])
 (k .nrm (St.of [(0, (.d (.sla false 8 es))), (3, (.d (.sla false 7 []))), (4, (.d (.sla false 7 []))), (5, (.d (.int .i64 (IntKind.i64.wrap ((↑i : Int) + (1 : Int))))))] [(52, .none), (58, .none), (69, .none), (77, .none), (90, .none), (97, .none), (106, .none), (113, .none), (124, .none), (133, .none)])))))))
 (cond ((cellA e4 0).toI == (5 : Int))
 (need (FSpec.D (clsS) [.nilsl, (.int .i64 ((cellA e1 1).toI)), (.int .i64 ((cellA e1 5).toI))])
 (need (FSpec.D (cldS) [.nilsl, (.int .i64 ((cellA e1 1).toI)), (.int .i64 ((cellA e1 5).toI))])
 (need (FSpec.D (samP) [(.sla false 7 []), (.sla false 7 [])])
 (need (FSpec.D (samP) [.nilsl, (.sl (SK.ro) 7 [])])
 (need (FSpec.D (isPS) [(.sla false 7 [])])
 (k .nrm (St.of [(0, (.d (.sla false 8 es))), (3, (.d (.sla false 7 []))), (4, (.d (.sla false 7 []))), (5, (.d (.int .i64 (IntKind.i64.wrap ((↑i : Int) + (1 : Int))))))] [(52, .none), (58, .none), (69, .none), (77, .none), (90, .none), (97, .none), (106, .none), (113, .none), (124, .none), (133, .none)])))))))
 (need (FSpec.D (fndS) [.nilsl, (.int .i64 ((cellA e1 1).toI))])
 (need (FSpec.D (fndS) [.nilsl, (.int .i64 ((cellA e1 1).toI))])
 (need (FSpec.D (samP) [.nilsl, .nilsl])
 (need (FSpec.D (samP) [.nilsl, (.sl (SK.ro) 7 [])])
 (need (FSpec.D (isPS) [.nilsl])
 (k .nrm (St.of [(0, (.d (.sla false 8 es))), (3, (.d .nilsl)), (4, (.d .nilsl)), (5, (.d (.int .i64 (IntKind.i64.wrap ((↑i : Int) + (1 : Int))))))] [(52, .none), (58, .none), (69, .none), (77, .none), (90, .none), (97, .none), (106, .none), (113, .none), (124, .none), (133, .none)]))))))))))))
 none))
 none))
 (k (.ex 0) (St.of [] []))) from by kernel_rfl).trans (by first | rfl | (simp only [decide_true, decide_false, eq_self, and_true, true_and, and_self, cond_true, cond_false, Nat.le_refl, Int.le_refl, Option.getD_some, Option.getD_none, Int.toNat_natCast, List.take_length, List.drop_zero, Nat.zero_add, List.nil_append, List.all_nil, List.append_nil, Bool.true_and, Bool.and_true, rowsA_sla, rowsA_sl, rowsA_nil, minus_zero, nat_le_cast, nat_nonneg, Option.isSome_some, Option.isSome_none, Bool.false_eq_true, false_and, and_false, if_true, if_false, implies_true, Int.toNat_zero, Bool.not_false, Bool.not_true, bne_self_eq_false]; done) | (simp only [decide_true, decide_false, eq_self, and_true, true_and, and_self, cond_true, cond_false, Nat.le_refl, Int.le_refl, Option.getD_some, Option.getD_none, Int.toNat_natCast, List.take_length, List.drop_zero, Nat.zero_add, List.nil_append, List.all_nil, List.append_nil, Bool.true_and, Bool.and_true, rowsA_sla, rowsA_sl, rowsA_nil, minus_zero, nat_le_cast, nat_nonneg, Option.isSome_some, Option.isSome_none, Bool.false_eq_true, false_and, and_false, if_true, if_false, implies_true, Int.toNat_zero, Bool.not_false, Bool.not_true, bne_self_eq_false]; rfl))
theorem t10 (L n : Nat) (es : List (List DV)) : FK tab spS7 l10 L (n+8) 10 [.sla false 8 es] =
   (bif decide ((↑es.length : Int) > (100 : Int)) then some (DV.bool true)
 else
 need
 (LoopOk (LB tab spS7 l10 L (n + (8 : Nat)) h100 c10l0)
 (St.of
 [(0, AV.d (DV.sla false 8 es)), (3, AV.d DV.nilsl), (4, AV.d DV.nilsl),
 ((5 : Nat), AV.d (DV.int .i64 0))]
 [(52, none), (58, none), (69, none), (77, none), (90, none), (97, none), (106, none),
 ((113 : Nat), none), (124, none), (133, none)])
 (Ex.ex (0 : Nat), St.of [] []))
 (need (kno7.D []) (some (DV.bool true)))) :=
  (show FK tab spS7 l10 L (n+8) 10 [.sla false 8 es] =
 (cond (decide ((↑es.length : Int) > (100 : Int)))
 (some (.bool true))
 (need (LoopOk (LB tab spS7 l10 L (n + (8 : Nat)) h100 c10l0) (St.of [(0, (.d (.sla false 8 es))), (3, (.d .nilsl)), (4, (.d .nilsl)), (5, (.d (.int .i64 ((0 : Int)))))] [(52, .none), (58, .none), (69, .none), (77, .none), (90, .none), (97, .none), (106, .none), (113, .none), (124, .none), (133, .none)]) ((.ex 0), (St.of [] [])))
 (need (FSpec.D (kno7) [])
 (some (.bool true))))) from by kernel_rfl).trans (by first | rfl | (simp only [decide_true, decide_false, eq_self, and_true, true_and, and_self, cond_true, cond_false, Nat.le_refl, Int.le_refl, Option.getD_some, Option.getD_none, Int.toNat_natCast, List.take_length, List.drop_zero, Nat.zero_add, List.nil_append, List.all_nil, List.append_nil, Bool.true_and, Bool.and_true, rowsA_sla, rowsA_sl, rowsA_nil, minus_zero, nat_le_cast, nat_nonneg, Option.isSome_some, Option.isSome_none, Bool.false_eq_true, false_and, and_false, if_true, if_false, implies_true, Int.toNat_zero, Bool.not_false, Bool.not_true, bne_self_eq_false]; done) | (simp only [decide_true, decide_false, eq_self, and_true, true_and, and_self, cond_true, cond_false, Nat.le_refl, Int.le_refl, Option.getD_some, Option.getD_none, Int.toNat_natCast, List.take_length, List.drop_zero, Nat.zero_add, List.nil_append, List.all_nil, List.append_nil, Bool.true_and, Bool.and_true, rowsA_sla, rowsA_sl, rowsA_nil, minus_zero, nat_le_cast, nat_nonneg, Option.isSome_some, Option.isSome_none, Bool.false_eq_true, false_and, and_false, if_true, if_false, implies_true, Int.toNat_zero, Bool.not_false, Bool.not_true, bne_self_eq_false]; rfl))
def J (M : List (List DV)) : Prop := (∀ e ∈ M, okRow z7 e = true) ∧ isP M = true
theorem J.len {M : List (List DV)} (h : J M) : M.length ≤ 40 := ((isP_iff M).1 h.2).2.1
theorem J.i7 {M : List (List DV)} (h : J M) : I7 1000 (.sla false 7 M) := ⟨Sl.sla _ _ _, h.1, by rw [rowsA_sla]; have := h.len; omega⟩
theorem J.nil : J [] := ⟨fun e he => by simp at he, rfl⟩
theorem J.put {M : List (List DV)} (h : J M) {p : List DV} (hp : okRow z7 p = true) : J (putL M p) := by
  by_cases h1 : 0 ≤ fI M (idO p)
  · have : putL M p = M := by unfold putL; rw [decide_eq_true h1]; rfl
    rwa [this]
  · by_cases h2 : 40 ≤ M.length
    · have : putL M p = M := by unfold putL; rw [decide_eq_false h1, decide_eq_true h2]; rfl
      rwa [this]
    · obtain ⟨q1, q2, q3⟩ := (isP_iff M).1 h.2
      have hno : ∀ a ∈ M, idO a ≠ idO p := fun a ha he => by
        have := fI_any M (idO p)
        have h' : (M.any fun e => idO e == idO p) = true := List.any_eq_true.2 ⟨a, ha, by rw [he]; exact beq_self_eq_true _⟩
        rw [h'] at this
        have := of_decide_eq_true this
        omega
      obtain ⟨p1, p2, p3, -⟩ := put_in q1 q3 (by omega) hno
      refine ⟨fun e he => ?_, p3⟩
      rw [p1] at he
      rcases List.mem_append.1 he with h' | h'
      · exact h.1 e (List.mem_of_mem_take h')
      · rcases List.mem_cons.1 h' with rfl | h'
        · exact hp
        · exact h.1 e (List.mem_of_mem_drop h')
theorem J.drop {M : List (List DV)} (h : J M) (id : Int) : J (dropL M id) := by
  refine ⟨(drop_rows h.1 id).1, ?_⟩
  by_cases h1 : fI M id < 0
  · have : dropL M id = M := by unfold dropL; rw [decide_eq_true h1]; rfl
    rw [this]
    exact h.2
  · obtain ⟨e, t1, t2, t3, t4, t5, t6⟩ := take_id h.2 h1
    exact (isP_iff _).2 ⟨t1, by omega, t2⟩
theorem J.frn {M : List (List DV)} (h : J M) (id : Int) : J (frnL M id) := by
  by_cases h1 : fI M id < 0
  · have : frnL M id = M := by unfold frnL; rw [decide_eq_true h1]; rfl
    rwa [this]
  · obtain ⟨e, t1, t2, t3, t4, t5, t6⟩ := take_id h.2 h1
    obtain ⟨d1, d2⟩ := drop_rows h.1 id
    have hL : frnL M id = (dropL M id).take (frP (dropL M id) (dropP M id)) ++ (dropP M id :: (dropL M id).drop (frP (dropL M id) (dropP M id))) := by unfold frnL; rw [decide_eq_false h1]; rfl
    refine ⟨fun e he => ?_, (put_at t1 t2 t6 (by rw [t5]; exact t3) (fr_le _ _) (fun a ha => ah_total (fr_take _ _ a ha)) (fr_drop t2 _) hL).1⟩
    rw [hL] at he
    rcases List.mem_append.1 he with h' | h'
    · exact d1 e (List.mem_of_mem_take h')
    · rcases List.mem_cons.1 h' with rfl | h'
      · exact dropP_ok h.1 id
      · exact d1 e (List.mem_of_mem_drop h')
theorem J.bak {M : List (List DV)} (h : J M) (id : Int) : J (bakL M id) := by
  by_cases h1 : fI M id < 0
  · have : bakL M id = M := by unfold bakL; rw [decide_eq_true h1]; rfl
    rwa [this]
  · have : bakL M id = putL (dropL M id) (pay7 (dropP M id)) := by unfold bakL; rw [decide_eq_false h1]; rfl
    rw [this]
    exact (h.drop id).put rfl
theorem J.cls {M : List (List DV)} (h : J M) (id c : Int) : J (clsL M id c) := by
  by_cases h1 : fI M id < 0
  · have : clsL M id c = M := by unfold clsL; rw [decide_eq_true h1]; rfl
    rwa [this]
  · have : clsL M id c = putL (dropL M id) (setC (dropP M id) c) := by unfold clsL; rw [decide_eq_false h1]; rfl
    rw [this]
    exact (h.drop id).put rfl
def Fl : St := St.of [(2, .d (.bool false))] [(158, none)]
theorem tail10 {es : List (List DV)} {i : Int} {k : Kont} {y a w : DV} (hy : I7 1000 y) (hP : isP (rowsA y) = true) (ha : I7 1000 a) (hw : I7 1000 w) (he : rowsA w = rowsA a) :
    need (samP.D [y, y]) (cond (cond (!sameP (rowsA y) (rowsA y)) true false) (k .ret Fl) (need (samP.D [a, w]) (cond (!sameP (rowsA a) (rowsA w)) (k .ret Fl) (need (isPS.D [y]) (cond (!isP (rowsA y)) (k .ret Fl) (k .nrm (S100 es y y i))))))) = k .nrm (S100 es y y i) := by
  refine (need_pos ⟨_, _, rfl, hy, hy⟩).trans ?_
  rw [show sameP (rowsA y) (rowsA y) = true by simp [sameP], Bool.not_true, cond_false, cond_false]
  refine (need_pos ⟨_, _, rfl, ha, hw⟩).trans ?_
  rw [he, show sameP (rowsA a) (rowsA a) = true by simp [sameP], Bool.not_true, cond_false]
  refine (need_pos ⟨_, rfl, hy⟩).trans ?_
  rw [hP]
  rfl
theorem eqd7 (d : List DV) : ((cellA d 0).toI == (cellA d 0).toI && ((cellA d 1).toI == (cellA d 1).toI && ((cellA d 2).toI == (cellA d 2).toI && ((cellA d 3).toI == (cellA d 3).toI && ((cellA d 4).toI == (cellA d 4).toI && ((cellA d 5).toI == (cellA d 5).toI && (cellA d 6).toI == (cellA d 6).toI)))))) = true := by simp
theorem step100 (L n : Nat) {es M : List (List DV)} (hM : J M) (i : Nat) (hi : i < es.length) (hl : es.length ≤ 100) (hz : ∀ e ∈ es, okRow (List.replicate 8 (.int .i64 0)) e = true) :
    ∃ M', J M' ∧ ∀ k, LB tab spS7 l10 L (n+4) h100 c10l0 (S100 es (.sla false 7 M) (.sla false 7 M) i) k = k .nrm (S100 es (.sla false 7 M') (.sla false 7 M') ((i + 1 : Nat) : Int)) := by
  have hzi := hz _ (List.getElem_mem hi)
  simp only [List.replicate] at hzi
  have hI := hM.i7
  have hlen := hM.len
  have hw0 : I7 1000 (.sl .ro 7 []) := ⟨Sl.sl _ _ _, fun e he => by simp [rowsA] at he, by simp [rowsA]⟩
  have hw1 : ∀ q, I7 1000 (.sl q 7 M) := fun q => ⟨Sl.sl _ _ _, hM.1, by show M.length ≤ 1000; omega⟩
  by_cases k1 : (cellA es[i] 0).toI = 1
  · refine ⟨putL M [.int .i64 (cellA es[i] 1).toI, .int .i64 (cellA es[i] 2).toI, .int .i64 (cellA es[i] 3).toI, .int .i64 (cellA es[i] 4).toI, .int .i64 (cellA es[i] 5).toI, .int .i64 (cellA es[i] 6).toI, .int .i64 (cellA es[i] 7).toI], hM.put rfl, fun k => ?_⟩
    have hJ := J.put hM (p := [.int .i64 (cellA es[i] 1).toI, .int .i64 (cellA es[i] 2).toI, .int .i64 (cellA es[i] 3).toI, .int .i64 (cellA es[i] 4).toI, .int .i64 (cellA es[i] 5).toI, .int .i64 (cellA es[i] 6).toI, .int .i64 (cellA es[i] 7).toI]) rfl
    rw [s100, lt_dec hi, cond_true, look_nat hi, hzi, cond_true, wrap_succ (by omega)]
    by_cases h0 : M.length = 0
    · rw [decide_eq_true h0, cond_true, look_nat hi, hzi, cond_true, show ((cellA es[i] 0).toI == (1 : Int)) = true from beq_iff_eq.2 k1, cond_true]
      exact (need_pos ⟨_, _, rfl, hI, rfl⟩).trans ((need_pos ⟨_, _, rfl, hI, rfl⟩).trans (tail10 hJ.i7 hJ.2 hI hw0 (List.eq_nil_of_length_eq_zero h0).symm))
    · rw [decide_eq_false h0, cond_false, all_one7 hM.1, cond_true, room7 (by omega), cond_true, look_nat hi, hzi, cond_true, show ((cellA es[i] 0).toI == (1 : Int)) = true from beq_iff_eq.2 k1, cond_true]
      exact (need_pos ⟨_, _, rfl, hI, rfl⟩).trans ((need_pos ⟨_, _, rfl, hI, rfl⟩).trans (tail10 hJ.i7 hJ.2 hI (hw1 _) rfl))
  · skip
    by_cases k2 : (cellA es[i] 0).toI = 2
    · refine ⟨dropL M (cellA es[i] 1).toI, hM.drop _, fun k => ?_⟩
      have hJ := hM.drop (cellA es[i] 1).toI
      rw [s100, lt_dec hi, cond_true, look_nat hi, hzi, cond_true, wrap_succ (by omega)]
      by_cases h0 : M.length = 0
      · rw [decide_eq_true h0, cond_true, look_nat hi, hzi, cond_true, show ((cellA es[i] 0).toI == (1 : Int)) = false from beq_eq_false_iff_ne.2 k1, cond_false, show ((cellA es[i] 0).toI == (2 : Int)) = true from beq_iff_eq.2 k2, cond_true, eqd7, Bool.not_true, cond_false]
        exact (need_pos ⟨_, _, rfl, hI⟩).trans ((need_pos ⟨_, _, rfl, hI⟩).trans (tail10 hJ.i7 hJ.2 hI hw0 (List.eq_nil_of_length_eq_zero h0).symm))
      · rw [decide_eq_false h0, cond_false, all_one7 hM.1, cond_true, room7 (by omega), cond_true, look_nat hi, hzi, cond_true, show ((cellA es[i] 0).toI == (1 : Int)) = false from beq_eq_false_iff_ne.2 k1, cond_false, show ((cellA es[i] 0).toI == (2 : Int)) = true from beq_iff_eq.2 k2, cond_true, eqd7, Bool.not_true, cond_false]
        exact (need_pos ⟨_, _, rfl, hI⟩).trans ((need_pos ⟨_, _, rfl, hI⟩).trans (tail10 hJ.i7 hJ.2 hI (hw1 _) rfl))
    · skip
      by_cases k3 : (cellA es[i] 0).toI = 3
      · refine ⟨frnL M (cellA es[i] 1).toI, hM.frn _, fun k => ?_⟩
        have hJ := hM.frn (cellA es[i] 1).toI
        rw [s100, lt_dec hi, cond_true, look_nat hi, hzi, cond_true, wrap_succ (by omega)]
        by_cases h0 : M.length = 0
        · rw [decide_eq_true h0, cond_true, look_nat hi, hzi, cond_true, show ((cellA es[i] 0).toI == (1 : Int)) = false from beq_eq_false_iff_ne.2 k1, cond_false, show ((cellA es[i] 0).toI == (2 : Int)) = false from beq_eq_false_iff_ne.2 k2, cond_false, show ((cellA es[i] 0).toI == (3 : Int)) = true from beq_iff_eq.2 k3, cond_true]
          exact (need_pos ⟨_, _, rfl, hI⟩).trans ((need_pos ⟨_, _, rfl, hI⟩).trans (tail10 hJ.i7 hJ.2 hI hw0 (List.eq_nil_of_length_eq_zero h0).symm))
        · rw [decide_eq_false h0, cond_false, all_one7 hM.1, cond_true, room7 (by omega), cond_true, look_nat hi, hzi, cond_true, show ((cellA es[i] 0).toI == (1 : Int)) = false from beq_eq_false_iff_ne.2 k1, cond_false, show ((cellA es[i] 0).toI == (2 : Int)) = false from beq_eq_false_iff_ne.2 k2, cond_false, show ((cellA es[i] 0).toI == (3 : Int)) = true from beq_iff_eq.2 k3, cond_true]
          exact (need_pos ⟨_, _, rfl, hI⟩).trans ((need_pos ⟨_, _, rfl, hI⟩).trans (tail10 hJ.i7 hJ.2 hI (hw1 _) rfl))
      · skip
        by_cases k4 : (cellA es[i] 0).toI = 4
        · refine ⟨bakL M (cellA es[i] 1).toI, hM.bak _, fun k => ?_⟩
          have hJ := hM.bak (cellA es[i] 1).toI
          rw [s100, lt_dec hi, cond_true, look_nat hi, hzi, cond_true, wrap_succ (by omega)]
          by_cases h0 : M.length = 0
          · rw [decide_eq_true h0, cond_true, look_nat hi, hzi, cond_true, show ((cellA es[i] 0).toI == (1 : Int)) = false from beq_eq_false_iff_ne.2 k1, cond_false, show ((cellA es[i] 0).toI == (2 : Int)) = false from beq_eq_false_iff_ne.2 k2, cond_false, show ((cellA es[i] 0).toI == (3 : Int)) = false from beq_eq_false_iff_ne.2 k3, cond_false, show ((cellA es[i] 0).toI == (4 : Int)) = true from beq_iff_eq.2 k4, cond_true]
            exact (need_pos ⟨_, _, rfl, hI⟩).trans ((need_pos ⟨_, _, rfl, hI, hM.2⟩).trans (tail10 hJ.i7 hJ.2 hI hw0 (List.eq_nil_of_length_eq_zero h0).symm))
          · rw [decide_eq_false h0, cond_false, all_one7 hM.1, cond_true, room7 (by omega), cond_true, look_nat hi, hzi, cond_true, show ((cellA es[i] 0).toI == (1 : Int)) = false from beq_eq_false_iff_ne.2 k1, cond_false, show ((cellA es[i] 0).toI == (2 : Int)) = false from beq_eq_false_iff_ne.2 k2, cond_false, show ((cellA es[i] 0).toI == (3 : Int)) = false from beq_eq_false_iff_ne.2 k3, cond_false, show ((cellA es[i] 0).toI == (4 : Int)) = true from beq_iff_eq.2 k4, cond_true]
            exact (need_pos ⟨_, _, rfl, hI⟩).trans ((need_pos ⟨_, _, rfl, hI, hM.2⟩).trans (tail10 hJ.i7 hJ.2 hI (hw1 _) rfl))
        · skip
          by_cases k5 : (cellA es[i] 0).toI = 5
          · refine ⟨clsL M (cellA es[i] 1).toI (cellA es[i] 5).toI, hM.cls _ _, fun k => ?_⟩
            have hJ := hM.cls (cellA es[i] 1).toI (cellA es[i] 5).toI
            rw [s100, lt_dec hi, cond_true, look_nat hi, hzi, cond_true, wrap_succ (by omega)]
            by_cases h0 : M.length = 0
            · rw [decide_eq_true h0, cond_true, look_nat hi, hzi, cond_true, show ((cellA es[i] 0).toI == (1 : Int)) = false from beq_eq_false_iff_ne.2 k1, cond_false, show ((cellA es[i] 0).toI == (2 : Int)) = false from beq_eq_false_iff_ne.2 k2, cond_false, show ((cellA es[i] 0).toI == (3 : Int)) = false from beq_eq_false_iff_ne.2 k3, cond_false, show ((cellA es[i] 0).toI == (4 : Int)) = false from beq_eq_false_iff_ne.2 k4, cond_false, show ((cellA es[i] 0).toI == (5 : Int)) = true from beq_iff_eq.2 k5, cond_true]
              exact (need_pos ⟨_, _, _, rfl, hI⟩).trans ((need_pos ⟨_, _, _, rfl, hI, hM.2⟩).trans (tail10 hJ.i7 hJ.2 hI hw0 (List.eq_nil_of_length_eq_zero h0).symm))
            · rw [decide_eq_false h0, cond_false, all_one7 hM.1, cond_true, room7 (by omega), cond_true, look_nat hi, hzi, cond_true, show ((cellA es[i] 0).toI == (1 : Int)) = false from beq_eq_false_iff_ne.2 k1, cond_false, show ((cellA es[i] 0).toI == (2 : Int)) = false from beq_eq_false_iff_ne.2 k2, cond_false, show ((cellA es[i] 0).toI == (3 : Int)) = false from beq_eq_false_iff_ne.2 k3, cond_false, show ((cellA es[i] 0).toI == (4 : Int)) = false from beq_eq_false_iff_ne.2 k4, cond_false, show ((cellA es[i] 0).toI == (5 : Int)) = true from beq_iff_eq.2 k5, cond_true]
              exact (need_pos ⟨_, _, _, rfl, hI⟩).trans ((need_pos ⟨_, _, _, rfl, hI, hM.2⟩).trans (tail10 hJ.i7 hJ.2 hI (hw1 _) rfl))
          · skip
            refine ⟨M, hM, fun k => ?_⟩
            have hJ := hM
            rw [s100, lt_dec hi, cond_true, look_nat hi, hzi, cond_true, wrap_succ (by omega)]
            by_cases h0 : M.length = 0
            · rw [decide_eq_true h0, cond_true, look_nat hi, hzi, cond_true, show ((cellA es[i] 0).toI == (1 : Int)) = false from beq_eq_false_iff_ne.2 k1, cond_false, show ((cellA es[i] 0).toI == (2 : Int)) = false from beq_eq_false_iff_ne.2 k2, cond_false, show ((cellA es[i] 0).toI == (3 : Int)) = false from beq_eq_false_iff_ne.2 k3, cond_false, show ((cellA es[i] 0).toI == (4 : Int)) = false from beq_eq_false_iff_ne.2 k4, cond_false, show ((cellA es[i] 0).toI == (5 : Int)) = false from beq_eq_false_iff_ne.2 k5, cond_false]
              exact (need_pos ⟨_, _, rfl, hI⟩).trans ((need_pos ⟨_, _, rfl, hI⟩).trans (tail10 hJ.i7 hJ.2 hI hw0 (List.eq_nil_of_length_eq_zero h0).symm))
            · rw [decide_eq_false h0, cond_false, all_one7 hM.1, cond_true, room7 (by omega), cond_true, look_nat hi, hzi, cond_true, show ((cellA es[i] 0).toI == (1 : Int)) = false from beq_eq_false_iff_ne.2 k1, cond_false, show ((cellA es[i] 0).toI == (2 : Int)) = false from beq_eq_false_iff_ne.2 k2, cond_false, show ((cellA es[i] 0).toI == (3 : Int)) = false from beq_eq_false_iff_ne.2 k3, cond_false, show ((cellA es[i] 0).toI == (4 : Int)) = false from beq_eq_false_iff_ne.2 k4, cond_false, show ((cellA es[i] 0).toI == (5 : Int)) = false from beq_eq_false_iff_ne.2 k5, cond_false]
              exact (need_pos ⟨_, _, rfl, hI⟩).trans ((need_pos ⟨_, _, rfl, hI⟩).trans (tail10 hJ.i7 hJ.2 hI (hw1 _) rfl))
def P100 (es : List (List DV)) (s : Option (List (List DV))) (i : Nat) : St := match s with
  | none => S100 es .nilsl .nilsl (i : Nat)
  | some M => S100 es (.sla false 7 M) (.sla false 7 M) (i : Nat)
theorem step100n (L n : Nat) {es : List (List DV)} (i : Nat) (hi : i < es.length) (hl : es.length ≤ 100) (hz : ∀ e ∈ es, okRow (List.replicate 8 (.int .i64 0)) e = true) :
    ∃ s, (∀ M, s = some M → J M) ∧ ∀ k, LB tab spS7 l10 L (n+4) h100 c10l0 (S100 es .nilsl .nilsl i) k = k .nrm (P100 es s (i + 1)) := by
  have hzi := hz _ (List.getElem_mem hi)
  simp only [List.replicate] at hzi
  have hI : I7 1000 .nilsl := ⟨Sl.nil _, fun e he => by simp [rowsA] at he, by simp [rowsA]⟩
  have hw0 : ∀ q, I7 1000 (.sl q 7 []) := fun q => ⟨Sl.sl _ _ _, fun e he => by simp [rowsA] at he, by simp [rowsA]⟩
  by_cases k1 : (cellA es[i] 0).toI = 1
  · have hJ := J.put J.nil (p := [.int .i64 (cellA es[i] 1).toI, .int .i64 (cellA es[i] 2).toI, .int .i64 (cellA es[i] 3).toI, .int .i64 (cellA es[i] 4).toI, .int .i64 (cellA es[i] 5).toI, .int .i64 (cellA es[i] 6).toI, .int .i64 (cellA es[i] 7).toI]) rfl
    refine ⟨some (putL [] [.int .i64 (cellA es[i] 1).toI, .int .i64 (cellA es[i] 2).toI, .int .i64 (cellA es[i] 3).toI, .int .i64 (cellA es[i] 4).toI, .int .i64 (cellA es[i] 5).toI, .int .i64 (cellA es[i] 6).toI, .int .i64 (cellA es[i] 7).toI]), fun M h => by cases h; exact hJ, fun k => ?_⟩
    rw [s100n, lt_dec hi, cond_true, look_nat hi, hzi, cond_true, wrap_succ (by omega), look_nat hi, hzi, cond_true, show ((cellA es[i] 0).toI == (1 : Int)) = true from beq_iff_eq.2 k1, cond_true]
    exact (need_pos ⟨_, _, rfl, hI, rfl⟩).trans ((need_pos ⟨_, _, rfl, hI, rfl⟩).trans (tail10 (y := .sla false 7 (putL [] [.int .i64 (cellA es[i] 1).toI, .int .i64 (cellA es[i] 2).toI, .int .i64 (cellA es[i] 3).toI, .int .i64 (cellA es[i] 4).toI, .int .i64 (cellA es[i] 5).toI, .int .i64 (cellA es[i] 6).toI, .int .i64 (cellA es[i] 7).toI])) (a := .nilsl) hJ.i7 hJ.2 hI (hw0 .ro) rfl))
  · skip
    by_cases k2 : (cellA es[i] 0).toI = 2
    · have hJ := J.nil.drop (cellA es[i] 1).toI
      refine ⟨some (dropL [] (cellA es[i] 1).toI), fun M h => by cases h; exact hJ, fun k => ?_⟩
      rw [s100n, lt_dec hi, cond_true, look_nat hi, hzi, cond_true, wrap_succ (by omega), look_nat hi, hzi, cond_true, show ((cellA es[i] 0).toI == (1 : Int)) = false from beq_eq_false_iff_ne.2 k1, cond_false, show ((cellA es[i] 0).toI == (2 : Int)) = true from beq_iff_eq.2 k2, cond_true]
      exact (need_pos ⟨_, _, rfl, hI⟩).trans ((need_pos ⟨_, _, rfl, hI⟩).trans (tail10 (y := .sla false 7 (dropL [] (cellA es[i] 1).toI)) (a := .nilsl) hJ.i7 hJ.2 hI (hw0 .ro) rfl))
    · skip
      by_cases k3 : (cellA es[i] 0).toI = 3
      · have hJ := J.nil.frn (cellA es[i] 1).toI
        refine ⟨some (frnL [] (cellA es[i] 1).toI), fun M h => by cases h; exact hJ, fun k => ?_⟩
        rw [s100n, lt_dec hi, cond_true, look_nat hi, hzi, cond_true, wrap_succ (by omega), look_nat hi, hzi, cond_true, show ((cellA es[i] 0).toI == (1 : Int)) = false from beq_eq_false_iff_ne.2 k1, cond_false, show ((cellA es[i] 0).toI == (2 : Int)) = false from beq_eq_false_iff_ne.2 k2, cond_false, show ((cellA es[i] 0).toI == (3 : Int)) = true from beq_iff_eq.2 k3, cond_true]
        exact (need_pos ⟨_, _, rfl, hI⟩).trans ((need_pos ⟨_, _, rfl, hI⟩).trans (tail10 (y := .sla false 7 (frnL [] (cellA es[i] 1).toI)) (a := .nilsl) hJ.i7 hJ.2 hI (hw0 .ro) rfl))
      · skip
        by_cases k4 : (cellA es[i] 0).toI = 4
        · have hJ := J.nil.bak (cellA es[i] 1).toI
          refine ⟨some (bakL [] (cellA es[i] 1).toI), fun M h => by cases h; exact hJ, fun k => ?_⟩
          rw [s100n, lt_dec hi, cond_true, look_nat hi, hzi, cond_true, wrap_succ (by omega), look_nat hi, hzi, cond_true, show ((cellA es[i] 0).toI == (1 : Int)) = false from beq_eq_false_iff_ne.2 k1, cond_false, show ((cellA es[i] 0).toI == (2 : Int)) = false from beq_eq_false_iff_ne.2 k2, cond_false, show ((cellA es[i] 0).toI == (3 : Int)) = false from beq_eq_false_iff_ne.2 k3, cond_false, show ((cellA es[i] 0).toI == (4 : Int)) = true from beq_iff_eq.2 k4, cond_true]
          exact (need_pos ⟨_, _, rfl, hI⟩).trans ((need_pos ⟨_, _, rfl, hI, J.nil.2⟩).trans (tail10 (y := .sla false 7 (bakL [] (cellA es[i] 1).toI)) (a := .nilsl) hJ.i7 hJ.2 hI (hw0 .ro) rfl))
        · skip
          by_cases k5 : (cellA es[i] 0).toI = 5
          · have hJ := J.nil.cls (cellA es[i] 1).toI (cellA es[i] 5).toI
            refine ⟨some (clsL [] (cellA es[i] 1).toI (cellA es[i] 5).toI), fun M h => by cases h; exact hJ, fun k => ?_⟩
            rw [s100n, lt_dec hi, cond_true, look_nat hi, hzi, cond_true, wrap_succ (by omega), look_nat hi, hzi, cond_true, show ((cellA es[i] 0).toI == (1 : Int)) = false from beq_eq_false_iff_ne.2 k1, cond_false, show ((cellA es[i] 0).toI == (2 : Int)) = false from beq_eq_false_iff_ne.2 k2, cond_false, show ((cellA es[i] 0).toI == (3 : Int)) = false from beq_eq_false_iff_ne.2 k3, cond_false, show ((cellA es[i] 0).toI == (4 : Int)) = false from beq_eq_false_iff_ne.2 k4, cond_false, show ((cellA es[i] 0).toI == (5 : Int)) = true from beq_iff_eq.2 k5, cond_true]
            exact (need_pos ⟨_, _, _, rfl, hI⟩).trans ((need_pos ⟨_, _, _, rfl, hI, J.nil.2⟩).trans (tail10 (y := .sla false 7 (clsL [] (cellA es[i] 1).toI (cellA es[i] 5).toI)) (a := .nilsl) hJ.i7 hJ.2 hI (hw0 .ro) rfl))
          · skip
            refine ⟨none, (fun M h => by cases h), fun k => ?_⟩
            rw [s100n, lt_dec hi, cond_true, look_nat hi, hzi, cond_true, wrap_succ (by omega), look_nat hi, hzi, cond_true, show ((cellA es[i] 0).toI == (1 : Int)) = false from beq_eq_false_iff_ne.2 k1, cond_false, show ((cellA es[i] 0).toI == (2 : Int)) = false from beq_eq_false_iff_ne.2 k2, cond_false, show ((cellA es[i] 0).toI == (3 : Int)) = false from beq_eq_false_iff_ne.2 k3, cond_false, show ((cellA es[i] 0).toI == (4 : Int)) = false from beq_eq_false_iff_ne.2 k4, cond_false, show ((cellA es[i] 0).toI == (5 : Int)) = false from beq_eq_false_iff_ne.2 k5, cond_false]
            exact (need_pos ⟨_, _, rfl, hI⟩).trans ((need_pos ⟨_, _, rfl, hI⟩).trans (tail10 (y := .nilsl) (a := .nilsl) hI rfl hI (hw0 .ro) rfl))
theorem loop100 (L n : Nat) {es : List (List DV)} (hl : es.length ≤ 100) (hz : ∀ e ∈ es, okRow (List.replicate 8 (.int .i64 0)) e = true) :
    LoopOk (LB tab spS7 l10 L (n+4) h100 c10l0) (S100 es .nilsl .nilsl 0) (.ex 0, St.of [] []) := by
  refine loop_meas (fun s : Option (List (List DV)) × Nat => P100 es s.1 s.2) (fun s => es.length - s.2) (fun s => s.2 ≤ es.length ∧ ∀ M, s.1 = some M → J M) (fun _ => (.ex 0, St.of [] [])) (fun s hs => ?_) (none, 0) ⟨Nat.zero_le _, fun M h => by cases h⟩
  obtain ⟨s, i⟩ := s
  obtain ⟨h1, h2⟩ := hs
  simp only at h1 h2 ⊢
  by_cases hi : i < es.length
  · left
    cases s with
    | none =>
      obtain ⟨s', h3, h4⟩ := step100n L n i hi hl hz
      exact ⟨(s', i + 1), ⟨hi, h3⟩, by simp only; omega, trivial, h4⟩
    | some M =>
      obtain ⟨M', h3, h4⟩ := step100 L n (h2 M rfl) i hi hl hz
      exact ⟨(some M', i + 1), ⟨hi, fun M h => by cases h; exact h3⟩, by simp only; omega, trivial, h4⟩
  · right
    refine ⟨by simp, fun k => ?_⟩
    have hf : decide (((i : Nat) : Int) < (es.length : Int)) = false := decide_eq_false (by omega)
    cases s with
    | none =>
      show LB tab spS7 l10 L (n+4) h100 c10l0 (S100 es .nilsl .nilsl i) k = _
      rw [s100n, hf]
      rfl
    | some M =>
      show LB tab spS7 l10 L (n+4) h100 c10l0 (S100 es (.sla false 7 M) (.sla false 7 M) i) k = _
      rw [s100, hf]
      rfl
end Go.Proofs.Ytngghbloijkfoaa
