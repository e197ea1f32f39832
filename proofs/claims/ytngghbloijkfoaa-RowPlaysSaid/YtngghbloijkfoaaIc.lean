/- What is known of the functions on rows of numbers, by their runs: the same, one more; and the known rows. No condition. -/
import Derived.Test.YtngghbloijkfoaaIb
namespace Go.Proofs.Ytngghbloijkfoaa
open Go Go.Proofs Go.RowKit Vm
set_option linter.unusedVariables false
set_option linter.unusedSimpArgs false
def isF : FSpec where
  D ds := ∃ x, ds = [x] ∧ I1 1000 x
  val ds := match ds with | [x] => some (.bool (isB (rowsA x))) | _ => none
def knoS : FSpec where
  D ds := ds = []
  val _ := some (.bool true)
noncomputable def spK : FuncId → Option FSpec := spAdd 14 addS (spAdd 16 samS (spAdd 17 hasA (spAdd 12 isF noSp)))
noncomputable def spL : FuncId → Option FSpec := spAdd 13 knoS (spAdd 11 isF (spAdd 15 addS (spAdd 18 hasS spK)))
def S40 (m x : DV) (i : Int) : St := St.of [(0, .d m), (3, .d x), (4, .d (.int .i64 i))] [(32, none)]
def S50 (m id : Int) (x : DV) (i : Int) : St := St.of [(0, .d (.int .i64 m)), (1, .d (.int .i64 id)), (5, .d x), (6, .d (.int .i64 i))] [(31, none)]
def l40 : LSpec := fun _ => .one (.ex 0) (St.of [] [])
def l50 (F : List (List DV)) : LSpec := fun st => match st.env 1 with
  | .d (.int _ id) => .one (.ex 0) (St.of [(1, .d (.int .i64 id)), (5, .d (.sla false 1 F))] [(31, none)])
  | _ => .no
def ly (k : Nat) : Option LSpec := if k = 40 then some l40 else none
def lz (F : List (List DV)) (k : Nat) : Option LSpec := if k = 50 then some (l50 F) else none
theorem t13 (L n : Nat) : FK tab spK lx L (n+8) 13 [] =
   (need (addS.D [DV.sl SK.tight 1 [[DV.int .i64 1], [DV.int .i64 5]], DV.int .i64 3])
 (need
 (samS.D
 [DV.sla false 1 [[DV.int .i64 1], [DV.int .i64 3], [DV.int .i64 5]],
 DV.sl SK.tight 1 [[DV.int .i64 1], [DV.int .i64 3], [DV.int .i64 5]]])
 (need
 (hasA.D
 [DV.sla false 1 [[DV.int .i64 1], [DV.int .i64 3], [DV.int .i64 5]], DV.int .i64 3])
 (need (isF.D [DV.sla false 1 [[DV.int .i64 1], [DV.int .i64 3], [DV.int .i64 5]]])
 (need (isF.D [DV.sl SK.tight 1 [[DV.int .i64 2], [DV.int .i64 2]]])
 (some (DV.bool !isB [[DV.int .i64 2], [DV.int .i64 2]]))))))) :=
  (show FK tab spK lx L (n+8) 13 [] =
 (need (FSpec.D (addS) [(.sl (SK.tight) 1 [[(.int .i64 ((1 : Int)))], [(.int .i64 ((5 : Int)))]]), (.int .i64 ((3 : Int)))])
 (need (FSpec.D (samS) [(.sla false 1 [[(.int .i64 ((1 : Int)))], [(.int .i64 ((3 : Int)))], [(.int .i64 ((5 : Int)))]]), (.sl (SK.tight) 1 [[(.int .i64 ((1 : Int)))], [(.int .i64 ((3 : Int)))], [(.int .i64 ((5 : Int)))]])])
 (need (FSpec.D (hasA) [(.sla false 1 [[(.int .i64 ((1 : Int)))], [(.int .i64 ((3 : Int)))], [(.int .i64 ((5 : Int)))]]), (.int .i64 ((3 : Int)))])
 (need (FSpec.D (isF) [(.sla false 1 [[(.int .i64 ((1 : Int)))], [(.int .i64 ((3 : Int)))], [(.int .i64 ((5 : Int)))]])])
 (need (FSpec.D (isF) [(.sl (SK.tight) 1 [[(.int .i64 ((2 : Int)))], [(.int .i64 ((2 : Int)))]])])
 (some (.bool (!isB (rowsA (DV.sl SK.tight 1 [[DV.int .i64 2], [DV.int .i64 2]])))))))))) from by kernel_rfl).trans (by first | rfl | (simp only [decide_true, decide_false, eq_self, and_true, true_and, and_self, cond_true, cond_false, Nat.le_refl, Int.le_refl, Option.getD_some, Option.getD_none, Int.toNat_natCast, List.take_length, List.drop_zero, Nat.zero_add, List.nil_append, List.all_nil, List.append_nil, Bool.true_and, Bool.and_true, rowsA_sla, rowsA_sl, rowsA_nil, minus_zero, nat_le_cast, nat_nonneg, Option.isSome_some, Option.isSome_none, Bool.false_eq_true, false_and, and_false, if_true, if_false, implies_true, Int.toNat_zero, Bool.not_false, Bool.not_true, bne_self_eq_false]; done) | (simp only [decide_true, decide_false, eq_self, and_true, true_and, and_self, cond_true, cond_false, Nat.le_refl, Int.le_refl, Option.getD_some, Option.getD_none, Int.toNat_natCast, List.take_length, List.drop_zero, Nat.zero_add, List.nil_append, List.all_nil, List.append_nil, Bool.true_and, Bool.and_true, rowsA_sla, rowsA_sl, rowsA_nil, minus_zero, nat_le_cast, nat_nonneg, Option.isSome_some, Option.isSome_none, Bool.false_eq_true, false_and, and_false, if_true, if_false, implies_true, Int.toNat_zero, Bool.not_false, Bool.not_true, bne_self_eq_false]; rfl))
theorem s40 (L n : Nat) (es l : List (List DV)) (i : Nat) (k : Kont) : LB tab spL ly L (n+4) h40 c4l0 (S40 (.sla false 1 es) (.sla false 1 l) i) k =
   (bif decide ((↑i : Int) < (↑es.length : Int)) then
 lookK es[i]? fun (e1 : List DV) =>
 bif okRow [DV.int .i64 0] e1 then
 bif decide ((cellA e1 0).toI < (1 : Int)) then
 k Ex.nrm
 (St.of
 [(0, AV.d (DV.sla false 1 es)), (3, AV.d (DV.sla false 1 l)),
 ((4 : Nat), AV.d (DV.int .i64 (IntKind.i64.wrap ((↑i : Int) + (1 : Int)))))]
 [(32, none)])
 else
 bif decide (l.length = (0 : Nat)) then
 lookK es[i]? fun (e6 : List DV) =>
 bif okRow [DV.int .i64 0] e6 then
 need (addS.D [DV.sla false 1 l, DV.int .i64 (cellA e6 0).toI])
 (need (samS.D [DV.sla false 1 l, DV.sl SK.ro 1 []])
 (bif !sameB l [] then k Ex.ret (St.of [(2, AV.d (DV.bool false))] [(88, none)])
 else
 need (isF.D [DV.sla false 1 (addL l (cellA e6 0).toI)])
 (bif !isB (addL l (cellA e6 0).toI) then k Ex.ret (St.of [(2, AV.d (DV.bool false))] [(88, none)])
 else
 lookK es[i]? fun (e14 : List DV) =>
 bif okRow [DV.int .i64 0] e14 then
 need (hasS.D [DV.sla false 1 l, DV.int .i64 (cellA e14 0).toI])
 (bif
 bif !hasB l (cellA e14 0).toI == (addE l (cellA e6 0).toI == (6 : Int)) then true
 else
 bif !hasB l (cellA e14 0).toI then
 !(addE l (cellA e6 0).toI == (3 : Int)) == ((↑l.length : Int) == (200 : Int))
 else false then
 bif (↑(addL l (cellA e6 0).toI).length : Int) != IntKind.i64.wrap ((↑l.length : Int) + (1 : Int)) then
 k Ex.ret (St.of [(2, AV.d (DV.bool false))] [(88, none)])
 else
 bif addE l (cellA e6 0).toI == (0 : Int) then
 k Ex.ret (St.of [(2, AV.d (DV.bool false))] [(88, none)])
 else k Ex.ret (St.of [(2, AV.d (DV.bool false))] [(88, none)])
 else
 bif addE l (cellA e6 0).toI == (0 : Int) then
 bif (↑(addL l (cellA e6 0).toI).length : Int) != IntKind.i64.wrap ((↑l.length : Int) + (1 : Int)) then
 k Ex.ret (St.of [(2, AV.d (DV.bool false))] [(88, none)])
 else
 lookK es[i]? fun (e21 : List DV) =>
 bif okRow [DV.int .i64 0] e21 then
 need (hasA.D [DV.sla false 1 (addL l (cellA e6 0).toI), DV.int .i64 (cellA e21 0).toI])
 (bif !hasB (addL l (cellA e6 0).toI) (cellA e21 0).toI then
 k Ex.ret (St.of [(2, AV.d (DV.bool false))] [(88, none)])
 else
 k Ex.nrm
 (St.of
 [(0, AV.d (DV.sla false 1 es)),
 ((3 : Nat), AV.d (DV.sla false 1 (addL l (cellA e6 0).toI))),
 ((4 : Nat), AV.d (DV.int .i64 (IntKind.i64.wrap ((↑i : Int) + (1 : Int)))))]
 [(32, none)]))
 else none
 else
 bif (↑(addL l (cellA e6 0).toI).length : Int) != IntKind.i64.wrap ((↑l.length : Int) + (1 : Int)) then
 k Ex.nrm
 (St.of
 [(0, AV.d (DV.sla false 1 es)),
 ((3 : Nat), AV.d (DV.sla false 1 (addL l (cellA e6 0).toI))),
 ((4 : Nat), AV.d (DV.int .i64 (IntKind.i64.wrap ((↑i : Int) + (1 : Int)))))]
 [(32, none)])
 else
 k Ex.nrm
 (St.of
 [(0, AV.d (DV.sla false 1 es)),
 ((3 : Nat), AV.d (DV.sla false 1 (addL l (cellA e6 0).toI))),
 ((4 : Nat), AV.d (DV.int .i64 (IntKind.i64.wrap ((↑i : Int) + (1 : Int)))))]
 [(32, none)]))
 else none)))
 else none
 else
 bif l.all fun (e : List DV) => e.length == (1 : Nat) && e.all DV.one then
 bif decide (l.length * (8 : Nat) ≤ room ∧ l.length ≤ room) then
 lookK es[i]? fun (e8 : List DV) =>
 bif okRow [DV.int .i64 0] e8 then
 need (addS.D [DV.sla false 1 l, DV.int .i64 (cellA e8 0).toI])
 (need (samS.D [DV.sla false 1 l, DV.sl SK.ro 1 l])
 (bif !sameB l l then k Ex.ret (St.of [(2, AV.d (DV.bool false))] [(88, none)])
 else
 need (isF.D [DV.sla false 1 (addL l (cellA e8 0).toI)])
 (bif !isB (addL l (cellA e8 0).toI) then k Ex.ret (St.of [(2, AV.d (DV.bool false))] [(88, none)])
 else
 lookK es[i]? fun (e17 : List DV) =>
 bif okRow [DV.int .i64 0] e17 then
 need (hasS.D [DV.sla false 1 l, DV.int .i64 (cellA e17 0).toI])
 (bif
 bif !hasB l (cellA e17 0).toI == (addE l (cellA e8 0).toI == (6 : Int)) then true
 else
 bif !hasB l (cellA e17 0).toI then
 !(addE l (cellA e8 0).toI == (3 : Int)) == ((↑l.length : Int) == (200 : Int))
 else false then
 bif (↑(addL l (cellA e8 0).toI).length : Int) != IntKind.i64.wrap ((↑l.length : Int) + (1 : Int)) then
 k Ex.ret (St.of [(2, AV.d (DV.bool false))] [(88, none)])
 else
 bif addE l (cellA e8 0).toI == (0 : Int) then
 k Ex.ret (St.of [(2, AV.d (DV.bool false))] [(88, none)])
 else k Ex.ret (St.of [(2, AV.d (DV.bool false))] [(88, none)])
 else
 bif addE l (cellA e8 0).toI == (0 : Int) then
 bif (↑(addL l (cellA e8 0).toI).length : Int) != IntKind.i64.wrap ((↑l.length : Int) + (1 : Int)) then
 k Ex.ret (St.of [(2, AV.d (DV.bool false))] [(88, none)])
 else
 lookK es[i]? fun (e24 : List DV) =>
 bif okRow [DV.int .i64 0] e24 then
 need
 (hasA.D [DV.sla false 1 (addL l (cellA e8 0).toI), DV.int .i64 (cellA e24 0).toI])
 (bif !hasB (addL l (cellA e8 0).toI) (cellA e24 0).toI then
 k Ex.ret (St.of [(2, AV.d (DV.bool false))] [(88, none)])
 else
 k Ex.nrm
 (St.of
 [(0, AV.d (DV.sla false 1 es)),
 ((3 : Nat), AV.d (DV.sla false 1 (addL l (cellA e8 0).toI))),
 ((4 : Nat), AV.d (DV.int .i64 (IntKind.i64.wrap ((↑i : Int) + (1 : Int)))))]
 [(32, none)]))
 else none
 else
 bif (↑(addL l (cellA e8 0).toI).length : Int) != IntKind.i64.wrap ((↑l.length : Int) + (1 : Int)) then
 k Ex.nrm
 (St.of
 [(0, AV.d (DV.sla false 1 es)),
 ((3 : Nat), AV.d (DV.sla false 1 (addL l (cellA e8 0).toI))),
 ((4 : Nat), AV.d (DV.int .i64 (IntKind.i64.wrap ((↑i : Int) + (1 : Int)))))]
 [(32, none)])
 else
 k Ex.nrm
 (St.of
 [(0, AV.d (DV.sla false 1 es)),
 ((3 : Nat), AV.d (DV.sla false 1 (addL l (cellA e8 0).toI))),
 ((4 : Nat), AV.d (DV.int .i64 (IntKind.i64.wrap ((↑i : Int) + (1 : Int)))))]
 [(32, none)]))
 else none)))
 else none
 else none
 else none
 else none
 else k (Ex.ex (0 : Nat)) (St.of [] [])) :=
  (show LB tab spL ly L (n+4) h40 c4l0 (S40 (.sla false 1 es) (.sla false 1 l) i) k =
 (cond (decide ((↑i : Int) < (↑es.length : Int)))
 (lookK (es[(↑i : Int).toNat]?)
 fun e1 =>
 (cond (okRow [DV.int .i64 0] e1)
 (cond (decide ((cellA e1 0).toI < (1 : Int)))
 (k .nrm (St.of [(0, (.d (.sla false 1 es))), (3, (.d (.sla false 1 l))), (4, (.d (.int .i64 (IntKind.i64.wrap ((↑i : Int) + (1 : Int))))))] [(32, .none)]))
 (cond (decide (l.length = (0 : Nat)))
 (lookK (es[(↑i : Int).toNat]?)
 fun e6 =>
 (cond (okRow [DV.int .i64 0] e6)
 (need (FSpec.D (addS) [(.sla false 1 l), (.int .i64 ((cellA e6 0).toI))])
 (need (FSpec.D (samS) [(.sla false 1 l), (.sl (SK.ro) 1 [])])
 (cond (!sameB (rowsA (DV.sla false 1 l)) (rowsA (DV.sl SK.ro 1 [])))
 (k .ret (St.of [(2, (.d (.bool false)))] [(88, .none)]))
 (need (FSpec.D (isF) [(.sla false 1 (addL (rowsA (DV.sla false 1 l)) (cellA e6 0).toI))])
 (cond (!isB (rowsA (DV.sla false 1 (addL (rowsA (DV.sla false 1 l)) (cellA e6 0).toI))))
 (k .ret (St.of [(2, (.d (.bool false)))] [(88, .none)]))
 (lookK (es[(↑i : Int).toNat]?)
 fun e14 =>
 (cond (okRow [DV.int .i64 0] e14)
 (need (FSpec.D (hasS) [(.sla false 1 l), (.int .i64 ((cellA e14 0).toI))])
 (cond (bif !hasB (rowsA (DV.sla false 1 l)) (cellA e14 0).toI == (addE (rowsA (DV.sla false 1 l)) (cellA e6 0).toI == (6 : Int)) then true else bif !hasB (rowsA (DV.sla false 1 l)) (cellA e14 0).toI then !(addE (rowsA (DV.sla false 1 l)) (cellA e6 0).toI == (3 : Int)) == ((↑l.length : Int) == (200 : Int)) else false)
 (cond ((↑(addL (rowsA (DV.sla false 1 l)) (cellA e6 0).toI).length : Int) != IntKind.i64.wrap ((↑l.length : Int) + (1 : Int)))
 (k .ret (St.of [(2, (.d (.bool false)))] [(88, .none)]))
 (cond (addE (rowsA (DV.sla false 1 l)) (cellA e6 0).toI == (0 : Int))
 (k .ret (St.of [(2, (.d (.bool false)))] [(88, .none)]))
 (k .ret (St.of [(2, (.d (.bool false)))] [(88, .none)]))))
 (cond (addE (rowsA (DV.sla false 1 l)) (cellA e6 0).toI == (0 : Int))
 (cond ((↑(addL (rowsA (DV.sla false 1 l)) (cellA e6 0).toI).length : Int) != IntKind.i64.wrap ((↑l.length : Int) + (1 : Int)))
 (k .ret (St.of [(2, (.d (.bool false)))] [(88, .none)]))
 (lookK (es[(↑i : Int).toNat]?)
 fun e21 =>
 (cond (okRow [DV.int .i64 0] e21)
 (need (FSpec.D (hasA) [(.sla false 1 (addL (rowsA (DV.sla false 1 l)) (cellA e6 0).toI)), (.int .i64 ((cellA e21 0).toI))])
 (cond (!hasB (rowsA (DV.sla false 1 (addL (rowsA (DV.sla false 1 l)) (cellA e6 0).toI))) (cellA e21 0).toI)
 (k .ret (St.of [(2, (.d (.bool false)))] [(88, .none)]))
 (k .nrm (St.of [(0, (.d (.sla false 1 es))), (3, (.d (.sla false 1 (addL (rowsA (DV.sla false 1 l)) (cellA e6 0).toI)))), (4, (.d (.int .i64 (IntKind.i64.wrap ((↑i : Int) + (1 : Int))))))] [(32, .none)]))))
 none)))
 (cond ((↑(addL (rowsA (DV.sla false 1 l)) (cellA e6 0).toI).length : Int) != IntKind.i64.wrap ((↑l.length : Int) + (1 : Int)))
 (k .nrm (St.of [(0, (.d (.sla false 1 es))), (3, (.d (.sla false 1 (addL (rowsA (DV.sla false 1 l)) (cellA e6 0).toI)))), (4, (.d (.int .i64 (IntKind.i64.wrap ((↑i : Int) + (1 : Int))))))] [(32, .none)]))
 (k .nrm (St.of [(0, (.d (.sla false 1 es))), (3, (.d (.sla false 1 (addL (rowsA (DV.sla false 1 l)) (cellA e6 0).toI)))), (4, (.d (.int .i64 (IntKind.i64.wrap ((↑i : Int) + (1 : Int))))))] [(32, .none)]))))))
 none)))))))
 none))
 (cond (l.all fun (e : List DV) => e.length == (1 : Nat) && e.all DV.one)
 (cond (decide ((2 : Nat) = (2 : Nat) ∧ (1 : Nat) = (1 : Nat) ∧ (1 : Nat) = (1 : Nat) ∧ (0 : Nat) = (0 : Nat) ∧ (0 : Nat) = (0 : Nat) ∧ l.length * (8 : Nat) ≤ room ∧ l.length ≤ room))
 (lookK (es[(↑i : Int).toNat]?)
 fun e8 =>
 (cond (okRow [DV.int .i64 0] e8)
 (need (FSpec.D (addS) [(.sla false 1 l), (.int .i64 ((cellA e8 0).toI))])
 (cond (decide ((0 : Nat) + l.length ≤ l.length))
 (need (FSpec.D (samS) [(.sla false 1 l), (.sl (SK.ro) 1 (List.take l.length l))])
 (cond (!sameB (rowsA (DV.sla false 1 l)) (rowsA (DV.sl SK.ro 1 (List.take l.length l))))
 (k .ret (St.of [(2, (.d (.bool false)))] [(88, .none)]))
 (need (FSpec.D (isF) [(.sla false 1 (addL (rowsA (DV.sla false 1 l)) (cellA e8 0).toI))])
 (cond (!isB (rowsA (DV.sla false 1 (addL (rowsA (DV.sla false 1 l)) (cellA e8 0).toI))))
 (k .ret (St.of [(2, (.d (.bool false)))] [(88, .none)]))
 (lookK (es[(↑i : Int).toNat]?)
 fun e17 =>
 (cond (okRow [DV.int .i64 0] e17)
 (need (FSpec.D (hasS) [(.sla false 1 l), (.int .i64 ((cellA e17 0).toI))])
 (cond (bif !hasB (rowsA (DV.sla false 1 l)) (cellA e17 0).toI == (addE (rowsA (DV.sla false 1 l)) (cellA e8 0).toI == (6 : Int)) then true else bif !hasB (rowsA (DV.sla false 1 l)) (cellA e17 0).toI then !(addE (rowsA (DV.sla false 1 l)) (cellA e8 0).toI == (3 : Int)) == ((↑l.length : Int) == (200 : Int)) else false)
 (cond ((↑(addL (rowsA (DV.sla false 1 l)) (cellA e8 0).toI).length : Int) != IntKind.i64.wrap ((↑l.length : Int) + (1 : Int)))
 (k .ret (St.of [(2, (.d (.bool false)))] [(88, .none)]))
 (cond (addE (rowsA (DV.sla false 1 l)) (cellA e8 0).toI == (0 : Int))
 (k .ret (St.of [(2, (.d (.bool false)))] [(88, .none)]))
 (k .ret (St.of [(2, (.d (.bool false)))] [(88, .none)]))))
 (cond (addE (rowsA (DV.sla false 1 l)) (cellA e8 0).toI == (0 : Int))
 (cond ((↑(addL (rowsA (DV.sla false 1 l)) (cellA e8 0).toI).length : Int) != IntKind.i64.wrap ((↑l.length : Int) + (1 : Int)))
 (k .ret (St.of [(2, (.d (.bool false)))] [(88, .none)]))
 (lookK (es[(↑i : Int).toNat]?)
 fun e24 =>
 (cond (okRow [DV.int .i64 0] e24)
 (need (FSpec.D (hasA) [(.sla false 1 (addL (rowsA (DV.sla false 1 l)) (cellA e8 0).toI)), (.int .i64 ((cellA e24 0).toI))])
 (cond (!hasB (rowsA (DV.sla false 1 (addL (rowsA (DV.sla false 1 l)) (cellA e8 0).toI))) (cellA e24 0).toI)
 (k .ret (St.of [(2, (.d (.bool false)))] [(88, .none)]))
 (k .nrm (St.of [(0, (.d (.sla false 1 es))), (3, (.d (.sla false 1 (addL (rowsA (DV.sla false 1 l)) (cellA e8 0).toI)))), (4, (.d (.int .i64 (IntKind.i64.wrap ((↑i : Int) + (1 : Int))))))] [(32, .none)]))))
 none)))
 (cond ((↑(addL (rowsA (DV.sla false 1 l)) (cellA e8 0).toI).length : Int) != IntKind.i64.wrap ((↑l.length : Int) + (1 : Int)))
 (k .nrm (St.of [(0, (.d (.sla false 1 es))), (3, (.d (.sla false 1 (addL (rowsA (DV.sla false 1 l)) (cellA e8 0).toI)))), (4, (.d (.int .i64 (IntKind.i64.wrap ((↑i : Int) + (1 : Int))))))] [(32, .none)]))
 (k .nrm (St.of [(0, (.d (.sla false 1 es))), (3, (.d (.sla false 1 (addL (rowsA (DV.sla false 1 l)) (cellA e8 0).toI)))), (4, (.d (.int .i64 (IntKind.i64.wrap ((↑i : Int) + (1 : Int))))))] [(32, .none)]))))))
 none))))))
 none))
 none))
 none)
 none)))
 none))
 (k (.ex 0) (St.of [] []))) from by kernel_rfl).trans (by first | rfl | (simp only [decide_true, decide_false, eq_self, and_true, true_and, and_self, cond_true, cond_false, Nat.le_refl, Int.le_refl, Option.getD_some, Option.getD_none, Int.toNat_natCast, List.take_length, List.drop_zero, Nat.zero_add, List.nil_append, List.all_nil, List.append_nil, Bool.true_and, Bool.and_true, rowsA_sla, rowsA_sl, rowsA_nil, minus_zero, nat_le_cast, nat_nonneg, Option.isSome_some, Option.isSome_none, Bool.false_eq_true, false_and, and_false, if_true, if_false, implies_true, Int.toNat_zero, Bool.not_false, Bool.not_true, bne_self_eq_false]; done) | (simp only [decide_true, decide_false, eq_self, and_true, true_and, and_self, cond_true, cond_false, Nat.le_refl, Int.le_refl, Option.getD_some, Option.getD_none, Int.toNat_natCast, List.take_length, List.drop_zero, Nat.zero_add, List.nil_append, List.all_nil, List.append_nil, Bool.true_and, Bool.and_true, rowsA_sla, rowsA_sl, rowsA_nil, minus_zero, nat_le_cast, nat_nonneg, Option.isSome_some, Option.isSome_none, Bool.false_eq_true, false_and, and_false, if_true, if_false, implies_true, Int.toNat_zero, Bool.not_false, Bool.not_true, bne_self_eq_false]; rfl))
theorem s40n (L n : Nat) (es : List (List DV)) (i : Nat) (k : Kont) : LB tab spL ly L (n+4) h40 c4l0 (S40 (.sla false 1 es) .nilsl i) k =
   (bif decide ((↑i : Int) < (↑es.length : Int)) then
 lookK es[i]? fun (e1 : List DV) =>
 bif okRow [DV.int .i64 0] e1 then
 bif decide ((cellA e1 0).toI < (1 : Int)) then
 k Ex.nrm
 (St.of
 [(0, AV.d (DV.sla false 1 es)), (3, AV.d DV.nilsl),
 ((4 : Nat), AV.d (DV.int .i64 (IntKind.i64.wrap ((↑i : Int) + (1 : Int)))))]
 [(32, none)])
 else
 lookK es[i]? fun (e5 : List DV) =>
 bif okRow [DV.int .i64 0] e5 then
 need (addS.D [DV.nilsl, DV.int .i64 (cellA e5 0).toI])
 (need (samS.D [DV.nilsl, DV.sl SK.ro 1 []])
 (need (isF.D [DV.sla false 1 [[DV.int .i64 (cellA e5 0).toI]]])
 (bif !isB (addL [] (cellA e5 0).toI) then k Ex.ret (St.of [(2, AV.d (DV.bool false))] [(88, none)])
 else
 lookK es[i]? fun (e12 : List DV) =>
 bif okRow [DV.int .i64 0] e12 then
 need (hasS.D [DV.nilsl, DV.int .i64 (cellA e12 0).toI])
 (lookK es[i]? fun (e16 : List DV) =>
 bif okRow [DV.int .i64 0] e16 then
 need
 (hasA.D [DV.sla false 1 [[DV.int .i64 (cellA e5 0).toI]], DV.int .i64 (cellA e16 0).toI])
 (bif !hasB (addL [] (cellA e5 0).toI) (cellA e16 0).toI then
 k Ex.ret (St.of [(2, AV.d (DV.bool false))] [(88, none)])
 else
 k Ex.nrm
 (St.of
 [(0, AV.d (DV.sla false 1 es)),
 ((3 : Nat), AV.d (DV.sla false 1 [[DV.int .i64 (cellA e5 0).toI]])),
 ((4 : Nat), AV.d (DV.int .i64 (IntKind.i64.wrap ((↑i : Int) + (1 : Int)))))]
 [(32, none)]))
 else none)
 else none)))
 else none
 else none
 else k (Ex.ex (0 : Nat)) (St.of [] [])) :=
  (show LB tab spL ly L (n+4) h40 c4l0 (S40 (.sla false 1 es) .nilsl i) k =
 (cond (decide ((↑i : Int) < (↑es.length : Int)))
 (lookK (es[(↑i : Int).toNat]?)
 fun e1 =>
 (cond (okRow [DV.int .i64 0] e1)
 (cond (decide ((cellA e1 0).toI < (1 : Int)))
 (k .nrm (St.of [(0, (.d (.sla false 1 es))), (3, (.d .nilsl)), (4, (.d (.int .i64 (IntKind.i64.wrap ((↑i : Int) + (1 : Int))))))] [(32, .none)]))
 (lookK (es[(↑i : Int).toNat]?)
 fun e5 =>
 (cond (okRow [DV.int .i64 0] e5)
 (need (FSpec.D (addS) [.nilsl, (.int .i64 ((cellA e5 0).toI))])
 (need (FSpec.D (samS) [.nilsl, (.sl (SK.ro) 1 [])])
 (need (FSpec.D (isF) [(.sla false 1 [[(.int .i64 ((cellA e5 0).toI))]])])
 (cond (!isB (rowsA (DV.sla false 1 (addL (rowsA DV.nilsl) (cellA e5 0).toI))))
 (k .ret (St.of [(2, (.d (.bool false)))] [(88, .none)]))
 (lookK (es[(↑i : Int).toNat]?)
 fun e12 =>
 (cond (okRow [DV.int .i64 0] e12)
 (need (FSpec.D (hasS) [.nilsl, (.int .i64 ((cellA e12 0).toI))])
 (lookK (es[(↑i : Int).toNat]?)
 fun e16 =>
 (cond (okRow [DV.int .i64 0] e16)
 (need (FSpec.D (hasA) [(.sla false 1 [[(.int .i64 ((cellA e5 0).toI))]]), (.int .i64 ((cellA e16 0).toI))])
 (cond (!hasB (rowsA (DV.sla false 1 (addL (rowsA DV.nilsl) (cellA e5 0).toI))) (cellA e16 0).toI)
 (k .ret (St.of [(2, (.d (.bool false)))] [(88, .none)]))
 (k .nrm (St.of [(0, (.d (.sla false 1 es))), (3, (.d (.sla false 1 [[(.int .i64 ((cellA e5 0).toI))]]))), (4, (.d (.int .i64 (IntKind.i64.wrap ((↑i : Int) + (1 : Int))))))] [(32, .none)]))))
 none)))
 none))))))
 none)))
 none))
 (k (.ex 0) (St.of [] []))) from by kernel_rfl).trans (by first | rfl | (simp only [decide_true, decide_false, eq_self, and_true, true_and, and_self, cond_true, cond_false, Nat.le_refl, Int.le_refl, Option.getD_some, Option.getD_none, Int.toNat_natCast, List.take_length, List.drop_zero, Nat.zero_add, List.nil_append, List.all_nil, List.append_nil, Bool.true_and, Bool.and_true, rowsA_sla, rowsA_sl, rowsA_nil, minus_zero, nat_le_cast, nat_nonneg, Option.isSome_some, Option.isSome_none, Bool.false_eq_true, false_and, and_false, if_true, if_false, implies_true, Int.toNat_zero, Bool.not_false, Bool.not_true, bne_self_eq_false]; done) | (simp only [decide_true, decide_false, eq_self, and_true, true_and, and_self, cond_true, cond_false, Nat.le_refl, Int.le_refl, Option.getD_some, Option.getD_none, Int.toNat_natCast, List.take_length, List.drop_zero, Nat.zero_add, List.nil_append, List.all_nil, List.append_nil, Bool.true_and, Bool.and_true, rowsA_sla, rowsA_sl, rowsA_nil, minus_zero, nat_le_cast, nat_nonneg, Option.isSome_some, Option.isSome_none, Bool.false_eq_true, false_and, and_false, if_true, if_false, implies_true, Int.toNat_zero, Bool.not_false, Bool.not_true, bne_self_eq_false]; rfl))
theorem s50 (F : List (List DV)) (L n : Nat) (m id : Int) (l : List (List DV)) (i : Nat) (k : Kont) : LB tab spL (lz F) L (n+4) h50 c5l0 (S50 m id (.sla false 1 l) i) k =
   (bif decide ((↑i : Int) ≤ IntKind.i64.wrap ((200 : Int) + m)) then
 need (addS.D [DV.sla false 1 l, DV.int .i64 (IntKind.i64.wrap ((1000 : Int) - (↑i : Int)))])
 (bif
 bif !(addE l (IntKind.i64.wrap ((1000 : Int) - (↑i : Int))) == (0 : Int)) == decide ((↑i : Int) ≤ (200 : Int)) then true
 else
 bif addE l (IntKind.i64.wrap ((1000 : Int) - (↑i : Int))) != (0 : Int) then addE l (IntKind.i64.wrap ((1000 : Int) - (↑i : Int))) != (3 : Int)
 else false then
 k Ex.ret (St.of [(4, AV.d (DV.bool false))] [(75, none)])
 else
 need (isF.D [DV.sla false 1 (addL l (IntKind.i64.wrap ((1000 : Int) - (↑i : Int))))])
 (bif !isB (addL l (IntKind.i64.wrap ((1000 : Int) - (↑i : Int)))) then k Ex.ret (St.of [(4, AV.d (DV.bool false))] [(75, none)])
 else
 k Ex.nrm
 (St.of
 [(0, AV.d (DV.int .i64 m)), (1, AV.d (DV.int .i64 id)),
 ((5 : Nat), AV.d (DV.sla false 1 (addL l (IntKind.i64.wrap ((1000 : Int) - (↑i : Int)))))),
 ((6 : Nat), AV.d (DV.int .i64 (IntKind.i64.wrap ((↑i : Int) + (1 : Int)))))]
 [(31, none)])))
 else k (Ex.ex (0 : Nat)) (St.of [(1, AV.d (DV.int .i64 id)), (5, AV.d (DV.sla false 1 l))] [(31, none)])) :=
  (show LB tab spL (lz F) L (n+4) h50 c5l0 (S50 m id (.sla false 1 l) i) k =
 (cond (decide ((↑i : Int) ≤ IntKind.i64.wrap ((200 : Int) + m)))
 (need (FSpec.D (addS) [(.sla false 1 l), (.int .i64 (IntKind.i64.wrap ((1000 : Int) - (↑i : Int))))])
 (cond (bif !(addE (rowsA (DV.sla false 1 l)) (IntKind.i64.wrap ((1000 : Int) - (↑i : Int))) == (0 : Int)) == decide ((↑i : Int) ≤ (200 : Int)) then true else bif addE (rowsA (DV.sla false 1 l)) (IntKind.i64.wrap ((1000 : Int) - (↑i : Int))) != (0 : Int) then addE (rowsA (DV.sla false 1 l)) (IntKind.i64.wrap ((1000 : Int) - (↑i : Int))) != (3 : Int) else false)
 (k .ret (St.of [(4, (.d (.bool false)))] [(75, .none)]))
 (need (FSpec.D (isF) [(.sla false 1 (addL (rowsA (DV.sla false 1 l)) (IntKind.i64.wrap ((1000 : Int) - (↑i : Int)))))])
 (cond (!isB (rowsA (DV.sla false 1 (addL (rowsA (DV.sla false 1 l)) (IntKind.i64.wrap ((1000 : Int) - (↑i : Int)))))))
 (k .ret (St.of [(4, (.d (.bool false)))] [(75, .none)]))
 (k .nrm (St.of [(0, (.d (.int .i64 m))), (1, (.d (.int .i64 id))), (5, (.d (.sla false 1 (addL (rowsA (DV.sla false 1 l)) (IntKind.i64.wrap ((1000 : Int) - (↑i : Int))))))), (6, (.d (.int .i64 (IntKind.i64.wrap ((↑i : Int) + (1 : Int))))))] [(31, .none)]))))))
 (k (.ex 0) (St.of [(1, (.d (.int .i64 id))), (5, (.d (.sla false 1 l)))] [(31, .none)]))) from by kernel_rfl).trans (by first | rfl | (simp only [decide_true, decide_false, eq_self, and_true, true_and, and_self, cond_true, cond_false, Nat.le_refl, Int.le_refl, Option.getD_some, Option.getD_none, Int.toNat_natCast, List.take_length, List.drop_zero, Nat.zero_add, List.nil_append, List.all_nil, List.append_nil, Bool.true_and, Bool.and_true, rowsA_sla, rowsA_sl, rowsA_nil, minus_zero, nat_le_cast, nat_nonneg, Option.isSome_some, Option.isSome_none, Bool.false_eq_true, false_and, and_false, if_true, if_false, implies_true, Int.toNat_zero, Bool.not_false, Bool.not_true, bne_self_eq_false]; done) | (simp only [decide_true, decide_false, eq_self, and_true, true_and, and_self, cond_true, cond_false, Nat.le_refl, Int.le_refl, Option.getD_some, Option.getD_none, Int.toNat_natCast, List.take_length, List.drop_zero, Nat.zero_add, List.nil_append, List.all_nil, List.append_nil, Bool.true_and, Bool.and_true, rowsA_sla, rowsA_sl, rowsA_nil, minus_zero, nat_le_cast, nat_nonneg, Option.isSome_some, Option.isSome_none, Bool.false_eq_true, false_and, and_false, if_true, if_false, implies_true, Int.toNat_zero, Bool.not_false, Bool.not_true, bne_self_eq_false]; rfl))
theorem s50n (F : List (List DV)) (L n : Nat) (m id : Int) (i : Nat) (k : Kont) : LB tab spL (lz F) L (n+4) h50 c5l0 (S50 m id .nilsl i) k =
   (bif decide ((↑i : Int) ≤ IntKind.i64.wrap ((200 : Int) + m)) then
 need (addS.D [DV.nilsl, DV.int .i64 (IntKind.i64.wrap ((1000 : Int) - (↑i : Int)))])
 (bif
 bif !(addE [] (IntKind.i64.wrap ((1000 : Int) - (↑i : Int))) == (0 : Int)) == decide ((↑i : Int) ≤ (200 : Int)) then true
 else
 bif addE [] (IntKind.i64.wrap ((1000 : Int) - (↑i : Int))) != (0 : Int) then addE [] (IntKind.i64.wrap ((1000 : Int) - (↑i : Int))) != (3 : Int)
 else false then
 k Ex.ret (St.of [(4, AV.d (DV.bool false))] [(75, none)])
 else
 need (isF.D [DV.sla false 1 [[DV.int .i64 (IntKind.i64.wrap ((1000 : Int) - (↑i : Int)))]]])
 (bif !isB (addL [] (IntKind.i64.wrap ((1000 : Int) - (↑i : Int)))) then k Ex.ret (St.of [(4, AV.d (DV.bool false))] [(75, none)])
 else
 k Ex.nrm
 (St.of
 [(0, AV.d (DV.int .i64 m)), (1, AV.d (DV.int .i64 id)),
 ((5 : Nat), AV.d (DV.sla false 1 [[DV.int .i64 (IntKind.i64.wrap ((1000 : Int) - (↑i : Int)))]])),
 ((6 : Nat), AV.d (DV.int .i64 (IntKind.i64.wrap ((↑i : Int) + (1 : Int)))))]
 [(31, none)])))
 else k (Ex.ex (0 : Nat)) (St.of [(1, AV.d (DV.int .i64 id)), (5, AV.d DV.nilsl)] [(31, none)])) :=
  (show LB tab spL (lz F) L (n+4) h50 c5l0 (S50 m id .nilsl i) k =
 (cond (decide ((↑i : Int) ≤ IntKind.i64.wrap ((200 : Int) + m)))
 (need (FSpec.D (addS) [.nilsl, (.int .i64 (IntKind.i64.wrap ((1000 : Int) - (↑i : Int))))])
 (cond (bif !(addE (rowsA DV.nilsl) (IntKind.i64.wrap ((1000 : Int) - (↑i : Int))) == (0 : Int)) == decide ((↑i : Int) ≤ (200 : Int)) then true else bif addE (rowsA DV.nilsl) (IntKind.i64.wrap ((1000 : Int) - (↑i : Int))) != (0 : Int) then addE (rowsA DV.nilsl) (IntKind.i64.wrap ((1000 : Int) - (↑i : Int))) != (3 : Int) else false)
 (k .ret (St.of [(4, (.d (.bool false)))] [(75, .none)]))
 (need (FSpec.D (isF) [(.sla false 1 [[(.int .i64 (IntKind.i64.wrap ((1000 : Int) - (↑i : Int))))]])])
 (cond (!isB (rowsA (DV.sla false 1 (addL (rowsA DV.nilsl) (IntKind.i64.wrap ((1000 : Int) - (↑i : Int)))))))
 (k .ret (St.of [(4, (.d (.bool false)))] [(75, .none)]))
 (k .nrm (St.of [(0, (.d (.int .i64 m))), (1, (.d (.int .i64 id))), (5, (.d (.sla false 1 [[(.int .i64 (IntKind.i64.wrap ((1000 : Int) - (↑i : Int))))]]))), (6, (.d (.int .i64 (IntKind.i64.wrap ((↑i : Int) + (1 : Int))))))] [(31, .none)]))))))
 (k (.ex 0) (St.of [(1, (.d (.int .i64 id))), (5, (.d .nilsl))] [(31, .none)]))) from by kernel_rfl).trans (by first | rfl | (simp only [decide_true, decide_false, eq_self, and_true, true_and, and_self, cond_true, cond_false, Nat.le_refl, Int.le_refl, Option.getD_some, Option.getD_none, Int.toNat_natCast, List.take_length, List.drop_zero, Nat.zero_add, List.nil_append, List.all_nil, List.append_nil, Bool.true_and, Bool.and_true, rowsA_sla, rowsA_sl, rowsA_nil, minus_zero, nat_le_cast, nat_nonneg, Option.isSome_some, Option.isSome_none, Bool.false_eq_true, false_and, and_false, if_true, if_false, implies_true, Int.toNat_zero, Bool.not_false, Bool.not_true, bne_self_eq_false]; done) | (simp only [decide_true, decide_false, eq_self, and_true, true_and, and_self, cond_true, cond_false, Nat.le_refl, Int.le_refl, Option.getD_some, Option.getD_none, Int.toNat_natCast, List.take_length, List.drop_zero, Nat.zero_add, List.nil_append, List.all_nil, List.append_nil, Bool.true_and, Bool.and_true, rowsA_sla, rowsA_sl, rowsA_nil, minus_zero, nat_le_cast, nat_nonneg, Option.isSome_some, Option.isSome_none, Bool.false_eq_true, false_and, and_false, if_true, if_false, implies_true, Int.toNat_zero, Bool.not_false, Bool.not_true, bne_self_eq_false]; rfl))

theorem cel_int {e : List DV} (h : okRow z1 e = true) : e = [.int .i64 (cel e)] := by
  obtain ⟨n, rfl⟩ := okRow_one h
  rfl
theorem vals_inj : ∀ {a b : List (List DV)}, (∀ e ∈ a, okRow z1 e = true) → (∀ e ∈ b, okRow z1 e = true) → vals a = vals b → a = b
  | [], [], _, _, _ => rfl
  | [], _ :: _, _, _, h => by simp [vals] at h
  | _ :: _, [], _, _, h => by simp [vals] at h
  | x :: a, y :: b, h1, h2, h => by
    simp only [vals, List.map_cons, List.cons.injEq] at h
    rw [cel_int (h1 x (by simp)), cel_int (h2 y (by simp)), h.1, vals_inj (fun e he => h1 e (by simp [he])) (fun e he => h2 e (by simp [he])) h.2]
theorem loop160 (L n : Nat) {es es2 : List (List DV)} (hz : ∀ e ∈ es, okRow z1 e = true) (hz2 : ∀ e ∈ es2, okRow z1 e = true) (hl : es.length ≤ 1000) (hle : es2.length = es.length) : ∀ r, (LR.br (sameB es es2) (.one (.ex 0) (St.of [] [])) (.one .ret (St.of [(4, .d (.bool false))] []))).val = some r →
    LoopOk (LB tab noSp lx L (n+4) h160 c16l0) (S160 (.sla false 1 es) (.sla false 1 es2) 0) r := by
  intro r hr
  have key := loop_list (f := LB tab noSp lx L (n+4) h160 c16l0) (fun i => S160 (.sla false 1 es) (.sla false 1 es2) (i : Nat)) es (fun i => ((LR.br (sameB (es.drop i) (es2.drop i)) (.one (.ex 0) (St.of [] [])) (.one .ret (St.of [(4, .d (.bool false))] []))).val).getD (.nrm, St.of [] []))
    (fun i hi => by
      have hzi := hz es[i] (List.getElem_mem hi)
      have hi2 : i < es2.length := by omega
      have hzi2 := hz2 es2[i] (List.getElem_mem hi2)
      have hd : sameB (es.drop i) (es2.drop i) = (!(cel es[i] != cel es2[i]) && sameB (es.drop (i + 1)) (es2.drop (i + 1))) := by
        unfold sameB
        rw [List.drop_eq_getElem_cons hi, List.drop_eq_getElem_cons hi2]
        simp only [vals, List.map_cons, List.cons.injEq, Bool.decide_and]
        cases h : (cel es[i] != cel es2[i]) with
        | true =>
          rw [decide_eq_false (show ¬ cel es[i] = cel es2[i] by simpa using h)]
          rfl
        | false =>
          rw [decide_eq_true (show cel es[i] = cel es2[i] by simpa using h)]
          rfl
      have hstep : ∀ k, LB tab noSp lx L (n+4) h160 c16l0 (S160 (.sla false 1 es) (.sla false 1 es2) (i : Nat)) k = cond (cel es[i] != cel es2[i]) (k .ret (St.of [(4, .d (.bool false))] [])) (k .nrm (S160 (.sla false 1 es) (.sla false 1 es2) ((i + 1 : Nat) : Int))) := by
        intro k
        rw [s160, lt_dec hi, cond_true, look_nat hi, hzi, cond_true, look_nat hi2, hzi2, cond_true, wrap_succ (by omega)]
        rfl
      cases hc : (cel es[i] != cel es2[i]) with
      | true =>
        right
        simp only [hd, hc, Bool.not_true, Bool.false_and, LR.val, cond_false, Option.getD_some]
        exact ⟨by simp, fun k => by rw [hstep, hc]; rfl⟩
      | false =>
        left
        simp only [hd, hc, Bool.not_false, Bool.true_and]
        exact ⟨fun k => by rw [hstep, hc]; rfl, trivial⟩)
    (by
      have he : es2.drop es.length = [] := by rw [← hle, List.drop_length]
      simp only [List.drop_length, he, sameB, decide_true, LR.val, cond_true, Option.getD_some]
      exact ⟨by simp, fun k => by rw [s160, lt_dec_self]; rfl⟩)
  simp only [List.drop_zero, hr, Option.getD_some] at key
  exact key
theorem same16 : samS.ok Try.prog 16 := fun ds r hD hv => by
  obtain ⟨x, y, rfl, ⟨hx, hz, hl⟩, ⟨hy, hz2, hl2⟩⟩ := hD
  cases hv
  refine EntX.gen2 hx hy (spec_run (lsp := lx) tab_ok noSp_ok 20 (0 + 8) ((t16 20 0 (rowsA x) (rowsA y)).trans ?_))
  generalize rowsA x = es at *
  generalize rowsA y = es2 at *
  by_cases hle : es2.length = es.length
  · have h := loop160 20 (0 + 4) hz hz2 hl hle
    rw [hle, bne_self_eq_false, cond_false]
    cases hb : sameB es es2 with
    | true =>
      rw [hb] at h
      exact (need_pos (h _ rfl)).trans rfl
    | false =>
      rw [hb] at h
      exact (need_pos (h _ rfl)).trans rfl
  · have hb : sameB es es2 = false := decide_eq_false fun h => hle (by have := congrArg List.length h; simpa [vals] using this.symm)
    rw [hb, show (((es.length : Nat) : Int) != ((es2.length : Nat) : Int)) = true from bne_iff_ne.2 (by omega)]
    rfl
theorem loop150 (L n : Nat) {es : List (List DV)} (hz : ∀ e ∈ es, okRow z1 e = true) (hl : es.length ≤ 1000) (id : Int) :
    LoopOk (LB tab spR lx L (n+4) h150 c15l0) (S150 (.sla false 1 es) id 0) (.ex 0, St.of [(0, .d (.sla false 1 es)), (1, .d (.int .i64 id)), (6, .d (.int .i64 (posB es id)))] []) := by
  obtain ⟨hp, p1, p2⟩ := pos_spec id es
  refine loop_meas (fun i : Nat => S150 (.sla false 1 es) id (i : Nat)) (fun i => posB es id - i) (fun i => i ≤ posB es id) (fun _ => (.ex 0, St.of [(0, .d (.sla false 1 es)), (1, .d (.int .i64 id)), (6, .d (.int .i64 (posB es id)))] []))
    (fun i hs => ?_) 0 (Nat.zero_le _)
  by_cases hi : i < es.length
  · have hzi := hz _ (List.getElem_mem hi)
    have hstep : ∀ k, LB tab spR lx L (n+4) h150 c15l0 (S150 (.sla false 1 es) id (i : Nat)) k = cond (decide (cel es[i] < id)) (k .nrm (S150 (.sla false 1 es) id ((i + 1 : Nat) : Int))) (k (.ex 0) (St.of [(0, .d (.sla false 1 es)), (1, .d (.int .i64 id)), (6, .d (.int .i64 (i : Nat)))] [])) := by
      intro k
      rw [s150r, lt_dec hi, cond_true, look_nat hi, hzi, cond_true, wrap_succ (by omega)]
      rfl
    by_cases hc : cel es[i] < id
    · left
      have hlt : i < posB es id := by
        apply Nat.lt_of_not_le
        intro hge
        have : i = posB es id := by omega
        subst this
        have := p2 hi
        omega
      exact ⟨i + 1, by omega, by omega, rfl, fun k => by rw [hstep, decide_eq_true hc]; rfl⟩
    · right
      have : i = posB es id := by
        apply Nat.le_antisymm hs
        apply Nat.le_of_not_lt
        intro hlt
        exact hc (p1 i hlt hi)
      refine ⟨by simp, fun k => ?_⟩
      rw [hstep, decide_eq_false hc, cond_false, this]
  · right
    have : i = posB es id := by omega
    refine ⟨by simp, fun k => ?_⟩
    rw [s150r, decide_eq_false (show ¬ ((i : Nat) : Int) < (es.length : Int) by omega), cond_false, this]
theorem sl_take {sz : Nat} {es : List (List DV)} (i : Nat) (hz : ∀ e ∈ es, okRow z1 e = true) : ∀ e ∈ es.take i, okRow z1 e = true := fun e he => hz e (List.mem_of_mem_take he)
theorem resA {f : FuncId} {ds : List DV} {x : DV} {es : List (List DV)} {e : Int} (hx : DLe (ro1 x) (.sla false 1 es)) (h : EntX Try.prog f ds (.tuple [x, .int .i64 e])) : EntX Try.prog f ds (.tuple [.sla false 1 es, .int .i64 e]) :=
  h.res (DLe.tuple (LLe.cons hx (LLe.refl _))) rfl
theorem ge_dec {n : Nat} : decide (((n : Nat) : Int) ≥ (200 : Int)) = decide (200 ≤ n) := decide_eq_decide.2 (by omega)
theorem add14 : addS.ok Try.prog 14 := fun ds r hD hv => by
  obtain ⟨x, id, rfl, ⟨hx, hz, hl⟩, ha⟩ := hD
  cases hv
  refine EntX.gen1 hx (EntX.sla (fun he => ?_) ?_)
  · rw [he]
    refine resA (x := .sl (.own 2) 1 [[.int .i64 id]]) (DLe.sl _ _ _) (spec_run (lsp := lx) tab_ok spA_ok 20 (0 + 8) ((t14n 20 0 id).trans ?_))
    refine (need_pos ⟨_, _, rfl, ⟨Sl.nil _, by simp [rowsA], by simp [rowsA]⟩, rfl⟩).trans ?_
    exact need_pos ⟨[], 0, _, id, .inr ⟨rfl, rfl, rfl⟩, by simp, Sl.sl _ _ _, rfl⟩
  · generalize rowsA x = es at *
    by_cases hb : hasB es id = true
    · rw [show addL es id = es by simp [addL, hb], show addE es id = 6 by simp [addE, hb]]
      refine resA (x := .sl .ro 1 es) (DLe.sl _ _ _) (spec_run (lsp := lx) tab_ok spA_ok 20 (0 + 8) ((t14 20 0 es id).trans ?_))
      refine (need_pos ⟨_, _, rfl, ⟨Sl.sl _ _ _, hz, hl⟩, ha⟩).trans ?_
      rw [hb]; rfl
    · have hb : hasB es id = false := by simpa using hb
      by_cases h2 : 200 ≤ es.length
      · rw [show addL es id = es by simp [addL, hb, h2], show addE es id = 3 by simp [addE, hb, h2]]
        refine resA (x := .sl .ro 1 es) (DLe.sl _ _ _) (spec_run (lsp := lx) tab_ok spA_ok 20 (0 + 8) ((t14 20 0 es id).trans ?_))
        refine (need_pos ⟨_, _, rfl, ⟨Sl.sl _ _ _, hz, hl⟩, ha⟩).trans ?_
        rw [hb, ge_dec, decide_eq_true h2]; rfl
      · rw [show addL es id = insB es id by simp [addL, hb, h2], show addE es id = 0 by simp [addE, hb, h2]]
        have hp := (pos_spec id es).1
        refine resA (x := .sl (.own 2) 1 (insB es id)) (DLe.sl _ _ _) (spec_run (lsp := lx) tab_ok spA_ok 20 (0 + 8) ((t14 20 0 es id).trans ?_))
        refine (need_pos ⟨_, _, rfl, ⟨Sl.sl _ _ _, hz, hl⟩, ha⟩).trans ?_
        rw [hb, ge_dec, decide_eq_false h2, cond_false, cond_false]
        by_cases h0 : es.length = 0
        · have : es = [] := List.eq_nil_of_length_eq_zero h0
          subst this
          rw [decide_eq_true h0, cond_true]
          exact need_pos ⟨[], posB [] id, _, id, .inl ⟨rfl, by simp [posB]⟩, by simp, Sl.sl _ _ _, rfl⟩
        · rw [decide_eq_false h0, cond_false, all_one hz, cond_true, roomN (by omega), cond_true]
          exact need_pos ⟨es, posB es id, _, id, .inl ⟨rfl, hp⟩, by omega, Sl.sl _ _ _, rfl⟩
theorem add15 : addS.ok Try.prog 15 := fun ds r hD hv => by
  obtain ⟨x, id, rfl, ⟨hx, hz, hl⟩, ha⟩ := hD
  cases hv
  refine EntX.gen1 hx ?_
  generalize rowsA x = es at *
  by_cases hb : hasB es id = true
  · rw [show addL es id = es by simp [addL, hb], show addE es id = 6 by simp [addE, hb]]
    refine (spec_run (lsp := lx) tab_ok spR_ok 20 (0 + 8) ((t15 20 0 es id).trans ?_))
    refine (need_pos ⟨_, _, rfl, ⟨Sl.sla _ _ _, hz, hl⟩⟩).trans ?_
    rw [hb]; rfl
  · have hb : hasB es id = false := by simpa using hb
    by_cases h2 : 200 ≤ es.length
    · rw [show addL es id = es by simp [addL, hb, h2], show addE es id = 3 by simp [addE, hb, h2]]
      refine (spec_run (lsp := lx) tab_ok spR_ok 20 (0 + 8) ((t15 20 0 es id).trans ?_))
      refine (need_pos ⟨_, _, rfl, ⟨Sl.sla _ _ _, hz, hl⟩⟩).trans ?_
      rw [hb, ge_dec, decide_eq_true h2]; rfl
    · rw [show addL es id = insB es id by simp [addL, hb, h2], show addE es id = 0 by simp [addE, hb, h2]]
      have hp := (pos_spec id es).1
      refine resA (x := .sl (.own 2) 1 (insB es id)) (DLe.sl _ _ _) (spec_run (lsp := lx) tab_ok spR_ok 20 (0 + 8) ((t15 20 0 es id).trans ?_))
      refine (need_pos ⟨_, _, rfl, ⟨Sl.sla _ _ _, hz, hl⟩⟩).trans ?_
      rw [hb, ge_dec, decide_eq_false h2, cond_false, cond_false]
      refine (need_pos (loop150 20 (0 + 4) hz hl id)).trans ?_
      have hz3 : ∀ e ∈ es.take (posB es id), okRow z1 e = true := fun e he => hz e (List.mem_of_mem_take he)
      have hz4 : ∀ e ∈ es.drop (posB es id), okRow z1 e = true := fun e he => hz e (List.mem_of_mem_drop he)
      have l3 : (es.take (posB es id)).length ≤ 1000 := by rw [List.length_take]; omega
      have l4 : (es.drop (posB es id)).length ≤ 1000 := by rw [List.length_drop]; omega
      rw [decide_eq_true hp]
      simp only [cond_true]
      have e5 : insB es id = es.take (posB es id) ++ ([.int .i64 id] :: es.drop (posB es id)) := rfl
      rw [e5]
      generalize es.take (posB es id) = A at *
      generalize es.drop (posB es id) = B at *
      rw [all_one hz3, all_one hz4]
      have e6 : A ++ [[DV.int .i64 id]] ++ B = A ++ ([.int .i64 id] :: B) := by simp
      have q1 : decide ((B.length + 1) * 8 ≤ room ∧ B.length + 1 ≤ room) = true := roomN (by omega)
      have q2 : decide (A.length * 8 ≤ room ∧ A.length ≤ room) = true := roomN (by omega)
      have q3 : decide ((A ++ [[DV.int .i64 id]]).length * 8 ≤ room ∧ (A ++ [[DV.int .i64 id]]).length ≤ room) = true := roomN (by rw [List.length_append]; simp; omega)
      have q4 : decide ((A ++ [[DV.int .i64 id]] ++ B).length * 8 ≤ room ∧ (A ++ [[DV.int .i64 id]] ++ B).length ≤ room) = true := roomN (by rw [List.length_append, List.length_append]; simp; omega)
      rw [q1, q2, q3, q4, e6]
      by_cases hA : A.length = 0
      · have : A = [] := List.eq_nil_of_length_eq_zero hA
        subst this
        by_cases hB : B.length = 0
        · have : B = [] := List.eq_nil_of_length_eq_zero hB
          subst this
          rfl
        · rw [decide_eq_false hB]; rfl
      · rw [decide_eq_false hA]
        by_cases hB : B.length = 0
        · have : B = [] := List.eq_nil_of_length_eq_zero hB
          subst this
          rfl
        · rw [decide_eq_false hB]; rfl
theorem isF11 : isF.ok Try.prog 11 := fun ds r hD hv => is11 ds r hD hv
theorem isF12 : isF.ok Try.prog 12 := fun ds r hD hv => is12 ds r hD hv
theorem spK_ok : ∀ f s, spK f = some s → s.ok Try.prog f := spAdd_ok add14 (spAdd_ok same16 (spAdd_ok has17 (spAdd_ok isF12 noSp_ok)))
theorem ok1 (n : Int) : okRow z1 [.int .i64 n] = true := rfl
theorem known13 : knoS.ok Try.prog 13 := fun ds r hD hv => by
  cases hD
  cases hv
  exact spec_run (lsp := lx) tab_ok spK_ok 20 (0 + 8) ((t13 20 0).trans (by
    refine (need_pos ⟨_, _, rfl, ⟨Sl.sl _ _ _, by simp [rowsA, ok1], by simp [rowsA]⟩, rfl⟩).trans ?_
    refine (need_pos ⟨_, _, rfl, ⟨Sl.sla _ _ _, by simp [rowsA, ok1], by simp [rowsA]⟩, ⟨Sl.sl _ _ _, by simp [rowsA, ok1], by simp [rowsA]⟩⟩).trans ?_
    refine (need_pos ⟨_, _, rfl, ⟨Sl.sla _ _ _, by simp [rowsA, ok1], by simp [rowsA]⟩, rfl⟩).trans ?_
    refine (need_pos ⟨_, rfl, ⟨Sl.sla _ _ _, by simp [rowsA, ok1], by simp [rowsA]⟩⟩).trans ?_
    exact need_pos ⟨_, rfl, ⟨Sl.sl _ _ _, by simp [rowsA, ok1], by simp [rowsA]⟩⟩))
theorem spL_ok : ∀ f s, spL f = some s → s.ok Try.prog f := spAdd_ok known13 (spAdd_ok isF11 (spAdd_ok add15 (spAdd_ok has18 spK_ok)))

theorem asc_of : ∀ (es : List (List DV)) (last : Int), (∀ e ∈ es, last < cel e) → es.Pairwise (fun a b => cel a < cel b) → ascB last es = true
  | [], _, _, _ => rfl
  | e :: l, last, h1, h2 => by
    rw [List.pairwise_cons] at h2
    simp only [ascB, Bool.and_eq_true, Bool.not_eq_true', decide_eq_false_iff_not]
    have := h1 e (by simp)
    exact ⟨by omega, asc_of l _ h2.1 h2.2⟩
theorem ins_ok {es : List (List DV)} (hz : ∀ e ∈ es, okRow z1 e = true) (id : Int) : ∀ e ∈ insB es id, okRow z1 e = true := fun e he => by
  unfold insB at he
  rcases List.mem_append.1 he with h | h
  · exact hz e (List.mem_of_mem_take h)
  · rcases List.mem_cons.1 h with rfl | h
    · rfl
    · exact hz e (List.mem_of_mem_drop h)
theorem ins_asc {es : List (List DV)} (ha : ascB 0 es = true) {id : Int} (h1 : 1 ≤ id) (hb : hasB es id = false) : ascB 0 (insB es id) = true := by
  obtain ⟨p0, p1, p2⟩ := pos_spec id es
  obtain ⟨q1, q2⟩ := asc_pair es 0 ha
  have hne : ∀ e ∈ es, cel e ≠ id := fun e he h => by
    unfold hasB at hb
    rw [List.any_eq_false] at hb
    exact hb e he (by simpa using h)
  have ht : ∀ e ∈ es.take (posB es id), cel e < id := fun e he => by
    obtain ⟨i, hi, rfl⟩ := List.getElem_of_mem he
    rw [List.getElem_take]
    rw [List.length_take] at hi
    exact p1 i (by omega) (by omega)
  have hd : ∀ e ∈ es.drop (posB es id), id < cel e := fun e he => by
    have hm := List.mem_of_mem_drop he
    obtain ⟨i, hi, rfl⟩ := List.getElem_of_mem he
    rw [List.getElem_drop] at hm ⊢
    rw [List.length_drop] at hi
    have := pos_ge ha (id := id) (i := posB es id + i) (by omega) (by omega)
    have := hne _ hm
    omega
  have hc : cel [.int .i64 id] = id := rfl
  refine asc_of _ 0 (fun e he => ?_) ?_
  · unfold insB at he
    rcases List.mem_append.1 he with h | h
    · exact q1 e (List.mem_of_mem_take h)
    · rcases List.mem_cons.1 h with rfl | h
      · rw [hc]; omega
      · exact q1 e (List.mem_of_mem_drop h)
  · unfold insB
    refine List.pairwise_append.2 ⟨q2.sublist (List.take_sublist _ _), List.pairwise_cons.2 ⟨fun e he => by rw [hc]; exact hd e he, q2.sublist (List.drop_sublist _ _)⟩, fun a ha' b hb' => ?_⟩
    have h3 := ht a ha'
    rcases List.mem_cons.1 hb' with rfl | h
    · rw [hc]; exact h3
    · have := hd b h
      omega
theorem ins_len (es : List (List DV)) (id : Int) : (insB es id).length = es.length + 1 := by
  have := (pos_spec id es).1
  unfold insB
  rw [List.length_append, List.length_cons, List.length_take, List.length_drop]
  omega
theorem ins_has (es : List (List DV)) (id : Int) : hasB (insB es id) id = true := by
  unfold hasB insB
  rw [List.any_append, List.any_cons]
  simp [cel, cellA, DV.toI]
theorem isB_asc {es : List (List DV)} (h : isB es = true) : ascB 0 es = true ∧ es.length ≤ 200 := by
  simp only [isB, Bool.and_eq_true, decide_eq_true_eq] at h
  exact h
/-- one more -/
theorem add_facts {es : List (List DV)} (hz : ∀ e ∈ es, okRow z1 e = true) (hi : isB es = true) {id : Int} (h1 : 1 ≤ id) :
    (∀ e ∈ addL es id, okRow z1 e = true) ∧ isB (addL es id) = true ∧ (addE es id == 6) = hasB es id ∧
      (hasB es id = false → (addE es id == 3) = decide (es.length = 200)) ∧ (addE es id = 0 → (addL es id).length = es.length + 1 ∧ hasB (addL es id) id = true) := by
  obtain ⟨ha, hl⟩ := isB_asc hi
  unfold addL addE
  cases hb : hasB es id with
  | true => exact ⟨hz, hi, rfl, (fun h => absurd h (by decide)), (fun h => absurd h (show ¬ (6 : Int) = 0 by decide))⟩
  | false =>
    by_cases h2 : 200 ≤ es.length
    · rw [decide_eq_true h2]
      exact ⟨hz, hi, rfl, fun _ => by rw [decide_eq_true (show es.length = 200 by omega)]; rfl, fun h => absurd h (show ¬ (3 : Int) = 0 by decide)⟩
    · rw [decide_eq_false h2]
      refine ⟨ins_ok hz id, ?_, rfl, fun _ => by rw [decide_eq_false (show ¬ es.length = 200 by omega)]; rfl, fun _ => ⟨ins_len _ _, ins_has _ _⟩⟩
      simp only [isB, Bool.and_eq_true, decide_eq_true_eq, cond_false]
      exact ⟨ins_asc ha h1 hb, by rw [ins_len]; omega⟩
theorem add_rows {es : List (List DV)} (hz : ∀ e ∈ es, okRow z1 e = true) (id : Int) : ∀ e ∈ addL es id, okRow z1 e = true := by
  unfold addL
  cases hasB es id with
  | true => exact hz
  | false =>
    cases decide (200 ≤ es.length) with
    | true => exact hz
    | false => exact ins_ok hz id
theorem add_len (es : List (List DV)) (id : Int) : (addL es id).length ≤ es.length + 1 := by
  unfold addL
  cases hasB es id with
  | true => exact Nat.le_succ _
  | false =>
    cases decide (200 ≤ es.length) with
    | true => exact Nat.le_succ _
    | false => exact Nat.le_of_eq (ins_len _ _)
theorem add_cases {es : List (List DV)} (hi : isB es = true) (id : Int) :
    (hasB es id = true ∧ addL es id = es ∧ addE es id = 6) ∨ (hasB es id = false ∧ es.length = 200 ∧ addL es id = es ∧ addE es id = 3) ∨ (hasB es id = false ∧ es.length < 200 ∧ addL es id = insB es id ∧ addE es id = 0) := by
  have hl := (isB_asc hi).2
  unfold addL addE
  cases hasB es id with
  | true => exact .inl ⟨rfl, rfl, rfl⟩
  | false =>
    by_cases h2 : 200 ≤ es.length
    · rw [decide_eq_true h2]
      exact .inr (.inl ⟨rfl, by omega, rfl, rfl⟩)
    · rw [decide_eq_false h2]
      exact .inr (.inr ⟨rfl, by omega, rfl, rfl⟩)
def X40 (x : DV) : Prop := (x = .nilsl ∨ ∃ l, x = .sla false 1 l) ∧ (∀ e ∈ rowsA x, okRow z1 e = true) ∧ isB (rowsA x) = true
theorem loop40 (L n : Nat) {es : List (List DV)} (hz : ∀ e ∈ es, okRow z1 e = true) (hl : es.length ≤ 1000) :
    LoopOk (LB tab spL ly L (n+4) h40 c4l0) (S40 (.sla false 1 es) .nilsl 0) (.ex 0, St.of [] []) := by
  refine loop_meas (fun s : DV × Nat => S40 (.sla false 1 es) s.1 (s.2 : Nat)) (fun s => es.length - s.2) (fun s => X40 s.1) (fun _ => (.ex 0, St.of [] []))
    (fun s hs => ?_) (.nilsl, 0) ⟨.inl rfl, by simp [rowsA], rfl⟩
  obtain ⟨x, i⟩ := s
  simp only at hs ⊢
  obtain ⟨hx, hzx, hb⟩ := hs
  by_cases hi : i < es.length
  · left
    have hzi := hz _ (List.getElem_mem hi)
    have ws := wrap_succ (i := i) (by omega)
    by_cases h1 : (cellA es[i] 0).toI < 1
    · refine ⟨(x, i + 1), ⟨hx, hzx, hb⟩, by simp only; omega, trivial, fun k => ?_⟩
      rcases hx with rfl | ⟨l, rfl⟩
      · rw [s40n, lt_dec hi, cond_true, look_nat hi, hzi, cond_true, decide_eq_true h1, cond_true, ws]; rfl
      · rw [s40, lt_dec hi, cond_true, look_nat hi, hzi, cond_true, decide_eq_true h1, cond_true, ws]; rfl
    · refine ⟨(.sla false 1 (addL (rowsA x) (cel es[i])), i + 1), ⟨.inr ⟨_, rfl⟩, add_rows hzx _, (add_facts hzx hb (by unfold cel; omega)).2.1⟩, by simp only; omega, trivial, fun k => ?_⟩
      obtain ⟨f1, f2, f3, f4, f5⟩ := add_facts hzx hb (id := cel es[i]) (by unfold cel; omega)
      have ha := (isB_asc hb).1
      have hll := (isB_asc hb).2
      have ha2 := (isB_asc f2).1
      have hll2 := (isB_asc f2).2
      have hc : cel es[i] = (cellA es[i] 0).toI := rfl
      have hIx : I1 1000 x := ⟨by rcases hx with rfl | ⟨l, rfl⟩; exact Sl.nil _; exact Sl.sla _ _ _, hzx, by omega⟩
      have hI2 : I1 1000 (.sla false 1 (addL (rowsA x) (cel es[i]))) := ⟨Sl.sla _ _ _, f1, by rw [rowsA_sla]; omega⟩
      have nA : ∀ y, need (addS.D [x, .int .i64 (cellA es[i] 0).toI]) y = y := fun y => need_pos ⟨_, _, rfl, hIx, ha⟩
      have nH : ∀ y, need (hasS.D [x, .int .i64 (cellA es[i] 0).toI]) y = y := fun y => need_pos ⟨_, _, rfl, hIx⟩
      have nI : ∀ y, need (isF.D [.sla false 1 (addL (rowsA x) (cellA es[i] 0).toI)]) y = y := fun y => need_pos ⟨_, rfl, hI2⟩
      have nG : ∀ y, need (hasA.D [.sla false 1 (addL (rowsA x) (cellA es[i] 0).toI), .int .i64 (cellA es[i] 0).toI]) y = y := fun y => need_pos ⟨_, _, rfl, hI2, ha2⟩
      have ss : sameB (rowsA x) (rowsA x) = true := by simp [sameB]
      rw [hc] at f2 f3 f4 f5 ⊢
      rcases hx with rfl | ⟨l, rfl⟩
      · have e0 : addL (rowsA .nilsl) (cellA es[i] 0).toI = [[.int .i64 (cellA es[i] 0).toI]] := rfl
        have h5 := f5 rfl
        rw [s40n, lt_dec hi, cond_true, look_nat hi, hzi, cond_true, decide_eq_false h1, cond_false, look_nat hi, hzi, cond_true, nA]
        refine (need_pos ⟨_, _, rfl, hIx, ⟨Sl.sl _ _ _, by simp [rowsA], by simp [rowsA]⟩⟩).trans ?_
        simp only [rowsA_nil] at *
        rw [f2, Bool.not_true, cond_false, look_nat hi, hzi, cond_true, nH, look_nat hi, hzi, cond_true, h5.2, Bool.not_true, cond_false, ws]
        exact (nI _).trans ((nG _).trans rfl)
      · simp only [rowsA_sla] at *
        have nS : ∀ (q : SK) y, need (samS.D [.sla false 1 l, .sl q 1 l]) y = y := fun q y => need_pos ⟨_, _, rfl, hIx, ⟨Sl.sl _ _ _, hzx, by simp only [rowsA]; omega⟩⟩
        rw [s40, lt_dec hi, cond_true, look_nat hi, hzi, cond_true, decide_eq_false h1, cond_false]
        by_cases h0 : l.length = 0
        · have : l = [] := List.eq_nil_of_length_eq_zero h0
          subst this
          simp only [look_nat hi, hzi, cond_true, nA, nH, nI, nG, nS, f2, Bool.not_true, cond_false, ss, decide_true]
          rcases add_cases hb (cellA es[i] 0).toI with ⟨g1, g2, g3⟩ | ⟨g1, g0, g2, g3⟩ | ⟨g1, g0, g2, g3⟩
          · simp only [g1, g2, g3, ws]
            generalize ((_ : Int) != _) = B
            cases B <;> rfl
          · simp only [g1, g2, g3, g0, ws]
            generalize ((_ : Int) != _) = B
            cases B <;> rfl
          · have gn : (((([] : List (List DV)).length : Nat) : Int) == 200) = false := by
              rw [beq_eq_false_iff_ne]; omega
            have gl : (((insB ([] : List (List DV)) (cellA es[i] 0).toI).length : Nat) : Int) = IntKind.i64.wrap ((([] : List (List DV)).length : Nat) + 1) := by
              rw [ins_len, wrap_succ (by omega)]
            have gh := ins_has ([] : List (List DV)) (cellA es[i] 0).toI
            simp only [g1, g2, g3, gn, gl, gh, ws, bne_self_eq_false]; rfl
        · simp only [look_nat hi, hzi, cond_true, nA, nH, nI, nG, nS, f2, Bool.not_true, cond_false, ss, decide_eq_false h0, all_one hzx, roomN (show l.length ≤ 1000000 by omega)]
          rcases add_cases hb (cellA es[i] 0).toI with ⟨g1, g2, g3⟩ | ⟨g1, g0, g2, g3⟩ | ⟨g1, g0, g2, g3⟩
          · simp only [g1, g2, g3, ws]
            generalize ((_ : Int) != _) = B
            cases B <;> rfl
          · simp only [g1, g2, g3, g0, ws]
            generalize ((_ : Int) != _) = B
            cases B <;> rfl
          · have gn : (((l.length : Nat) : Int) == 200) = false := by
              rw [beq_eq_false_iff_ne]; omega
            have gl : (((insB l (cellA es[i] 0).toI).length : Nat) : Int) = IntKind.i64.wrap ((l.length : Nat) + 1) := by
              rw [ins_len, wrap_succ (by omega)]
            have gh := ins_has l (cellA es[i] 0).toI
            simp only [g1, g2, g3, gn, gl, gh, ws, bne_self_eq_false]; rfl
  · right
    refine ⟨by simp, fun k => ?_⟩
    rcases hx with rfl | ⟨l, rfl⟩
    · rw [s40n, decide_eq_false (show ¬ ((i : Nat) : Int) < (es.length : Int) by omega)]; rfl
    · rw [s40, decide_eq_false (show ¬ ((i : Nat) : Int) < (es.length : Int) by omega)]; rfl
/-- the numbers from 1000 - n to 999 -/
def decL (n : Nat) : List (List DV) := (List.range n).map fun (j : Nat) => [.int .i64 ((1000 : Int) - (n : Int) + (j : Int))]
theorem decL_len (n : Nat) : (decL n).length = n := by simp [decL]
theorem decL_ok (n : Nat) : ∀ e ∈ decL n, okRow z1 e = true := fun e he => by
  unfold decL at he
  obtain ⟨j, _, rfl⟩ := List.mem_map.1 he
  rfl
theorem decL_get {n i : Nat} (h : i < (decL n).length) : cel (decL n)[i] = (1000 : Int) - n + i := by
  have : (decL n)[i] = [.int .i64 ((1000 : Int) - n + i)] := by simp [decL]
  rw [this]
  rfl
theorem decL_is {n : Nat} (h : n ≤ 200) : isB (decL n) = true := by
  simp only [isB, Bool.and_eq_true, decide_eq_true_eq]
  refine ⟨asc_of _ 0 (fun e he => ?_) ?_, by rw [decL_len]; omega⟩
  · obtain ⟨i, hi, rfl⟩ := List.getElem_of_mem he
    rw [decL_get]
    omega
  · rw [List.pairwise_iff_getElem]
    intro i j hi hj hij
    rw [decL_get, decL_get]
    omega
theorem decL_has (n : Nat) (id : Int) : hasB (decL n) id = decide ((1000 : Int) - n ≤ id ∧ id < 1000) := by
  unfold hasB
  rw [Bool.eq_iff_iff, List.any_eq_true, decide_eq_true_eq]
  constructor
  · rintro ⟨e, he, hc⟩
    obtain ⟨i, hi, rfl⟩ := List.getElem_of_mem he
    rw [decL_get, beq_iff_eq] at hc
    rw [decL_len] at hi
    omega
  · rintro ⟨h1, h2⟩
    have hi : (id - (1000 - n)).toNat < (decL n).length := by rw [decL_len]; omega
    refine ⟨_, List.getElem_mem hi, ?_⟩
    rw [decL_get, beq_iff_eq]
    omega
theorem decL_pos (n : Nat) (id : Int) (h : id < 1000 - (n : Int)) : posB (decL n) id = 0 := by
  obtain ⟨h1, h2, h3⟩ := pos_spec id (decL n)
  apply Nat.eq_zero_of_not_pos
  intro hp
  have := h2 0 hp (by omega)
  rw [decL_get] at this
  omega
theorem decL_succ (n : Nat) : insB (decL n) (1000 - ((n + 1 : Nat) : Int)) = decL (n + 1) := by
  unfold insB
  rw [decL_pos _ _ (by omega), List.take_zero, List.drop_zero, List.nil_append]
  unfold decL
  rw [List.range_succ_eq_map, List.map_cons, List.map_map]
  refine congr (congrArg List.cons ?_) ?_
  · rw [show (1000 : Int) - ((n + 1 : Nat) : Int) + ((0 : Nat) : Int) = 1000 - ((n + 1 : Nat) : Int) by omega]
  · apply List.map_congr_left
    intro j _
    simp only [Function.comp]
    rw [show (1000 : Int) - ((n + 1 : Nat) : Int) + ((j.succ : Nat) : Int) = 1000 - (n : Int) + (j : Int) by omega]
/-- what one more round makes of it -/
theorem decL_add (i : Nat) (hi : 1 ≤ i) (hm : i ≤ 220) : addL (decL (min (i - 1) 200)) (1000 - (i : Int)) = decL (min i 200) ∧ addE (decL (min (i - 1) 200)) (1000 - (i : Int)) = cond (decide (i ≤ 200)) 0 3 := by
  have hh : hasB (decL (min (i - 1) 200)) (1000 - (i : Int)) = false := by
    rw [decL_has]
    exact decide_eq_false (by omega)
  unfold addL addE
  rw [hh, decL_len]
  by_cases h : i ≤ 200
  · have h1 : min (i - 1) 200 = i - 1 := by omega
    have h2 : min i 200 = i - 1 + 1 := by omega
    rw [h1, h2, decide_eq_false (show ¬ 200 ≤ i - 1 by omega), decide_eq_true h, ← decL_succ, show ((i - 1 + 1 : Nat) : Int) = (i : Int) by omega]
    exact ⟨rfl, rfl⟩
  · have h1 : min (i - 1) 200 = 200 := by omega
    have h2 : min i 200 = 200 := by omega
    have h3 : decide (200 ≤ min (i - 1) 200) = true := decide_eq_true (by omega)
    rw [h3, h1, h2, decide_eq_false h]
    simp only [cond_true, cond_false, and_self]
theorem loop50 (L n : Nat) (m id : Int) (h0 : 0 ≤ m) (h20 : m ≤ 20) :
    LoopOk (LB tab spL (lz (decL 200)) L (n+4) h50 c5l0) (S50 m id .nilsl 1) (.ex 0, St.of [(1, .d (.int .i64 id)), (5, .d (.sla false 1 (decL 200)))] [(31, none)]) := by
  have hw : IntKind.i64.wrap (200 + m) = 200 + m := wrap_fits (by omega) (by omega)
  refine loop_meas (fun s : DV × Nat => S50 m id s.1 (s.2 : Nat)) (fun s => 300 - s.2) (fun s => 1 ≤ s.2 ∧ (s.2 : Int) ≤ 201 + m ∧ ((s.1 = .nilsl ∧ s.2 = 1) ∨ (s.1 = .sla false 1 (decL (min (s.2 - 1) 200)) ∧ 1 < s.2))) (fun _ => (.ex 0, St.of [(1, .d (.int .i64 id)), (5, .d (.sla false 1 (decL 200)))] [(31, none)]))
    (fun s hs => ?_) (.nilsl, 1) ⟨by simp, by simp only; omega, .inl ⟨rfl, rfl⟩⟩
  obtain ⟨x, i⟩ := s
  simp only at hs ⊢
  obtain ⟨hi1, hi2, hx⟩ := hs
  have hr : rowsA x = decL (min (i - 1) 200) := by
    rcases hx with ⟨rfl, rfl⟩ | ⟨rfl, _⟩
    · rfl
    · rfl
  have hsl : Sl 1 x := by
    rcases hx with ⟨rfl, _⟩ | ⟨rfl, _⟩
    · exact Sl.nil _
    · exact Sl.sla _ _ _
  by_cases hc : (i : Int) ≤ 200 + m
  · left
    have hw2 : IntKind.i64.wrap (1000 - (i : Int)) = 1000 - (i : Int) := wrap_fits (by omega) (by omega)
    have ws := wrap_succ (i := i) (by omega)
    obtain ⟨a1, a2⟩ := decL_add i hi1 (by omega)
    have hb := decL_is (n := min (i - 1) 200) (by omega)
    have hb2 := decL_is (n := min i 200) (by omega)
    have hIx : I1 1000 x := ⟨hsl, by rw [hr]; exact decL_ok _, by rw [hr, decL_len]; omega⟩
    have hI2 : I1 1000 (.sla false 1 (decL (min i 200))) := ⟨Sl.sla _ _ _, decL_ok _, by rw [rowsA_sla, decL_len]; omega⟩
    have nA : ∀ y, need (addS.D [x, .int .i64 (1000 - (i : Int))]) y = y := fun y => need_pos ⟨_, _, rfl, hIx, by rw [hr]; exact (isB_asc hb).1⟩
    have nI : ∀ y, need (isF.D [.sla false 1 (decL (min i 200))]) y = y := fun y => need_pos ⟨_, rfl, hI2⟩
    have e3 : decide ((i : Int) ≤ 200) = decide (i ≤ 200) := decide_eq_decide.2 (by omega)
    refine ⟨(.sla false 1 (decL (min i 200)), i + 1), ⟨by simp only; omega, by simp only; omega, .inr ⟨by simp only [Nat.add_sub_cancel], by simp only; omega⟩⟩, by simp only; omega, trivial, fun k => ?_⟩
    rcases hx with ⟨rfl, rfl⟩ | ⟨rfl, _⟩
    · rw [s50n, hw, decide_eq_true hc, cond_true, hw2, nA]
      exact (nI _).trans rfl
    · rw [s50, hw, decide_eq_true hc, cond_true, hw2, nA, a1, a2, nI, hb2, ws, e3]
      cases decide (i ≤ 200) <;> rfl
  · right
    refine ⟨by simp, fun k => ?_⟩
    rcases hx with ⟨rfl, rfl⟩ | ⟨rfl, _⟩
    · exact absurd hc (by omega)
    · rw [s50, hw, decide_eq_false hc, cond_false, show min (i - 1) 200 = 200 by omega]
end Go.Proofs.Ytngghbloijkfoaa
