/- What is known of the functions on rows of payments, by their runs: one less; a row grows until it is full. No condition. -/
import Derived.Test.YtngghbloijkfoaaRd
import Derived.Test.YtngghbloijkfoaaInsE
namespace Go.Proofs.Ytngghbloijkfoaa
open Go Go.Proofs Go.RowKit Vm
set_option linter.unusedVariables false
set_option linter.unusedSimpArgs false
def delB (es : List (List DV)) (i : Nat) : List (List DV) := es.take i ++ es.drop (i + 1)
def pay7 (e : List DV) : List DV := [.int .i64 (cellA e 0).toI, .int .i64 (cellA e 1).toI, .int .i64 (cellA e 2).toI, .int .i64 (cellA e 3).toI, .int .i64 (cellA e 4).toI, .int .i64 (cellA e 5).toI, .int .i64 (cellA e 6).toI]
def dropL (es : List (List DV)) (id : Int) : List (List DV) := cond (decide (fI es id < 0)) es (delB es (fI es id).toNat)
def dropP (es : List (List DV)) (id : Int) : List DV := cond (decide (fI es id < 0)) z7 ((es[(fI es id).toNat]?).getD z7)
def dropE (es : List (List DV)) (id : Int) : Int := cond (decide (fI es id < 0)) 4 0
def drpS : FSpec where
  D ds := ∃ x id, ds = [x, .int .i64 id] ∧ I7 1000 x
  val ds := match ds with | [x, .int _ id] => some (.tuple [.sla false 7 (dropL (rowsA x) id), .agg (pay7 (dropP (rowsA x) id)), .int .i64 (dropE (rowsA x) id)]) | _ => none
def delS : FSpec where
  D ds := ∃ es i, ds = [.mv 38 7 es, .int .i64 ((i : Nat) : Int), .int .i64 (((i : Nat) : Int) + 1)] ∧ i < es.length
  val ds := match ds with | [.mv _ _ es, .int _ i, _] => some (.sl (.own 38) 7 (delB es i.toNat)) | _ => none
noncomputable def spD7 : FuncId → Option FSpec := spAdd 34 fndS (spAdd 43 delS noSp)
noncomputable def spF7 : FuncId → Option FSpec := spAdd 22 putS (spAdd 23 drpS (spAdd 21 kno7 noSp))
def S70 (m : Int) (x : DV) (i : Int) : St := St.of [(0, .d (.int .i64 m)), (3, .d x), (4, .d (.int .i64 i))] [(35, none)]
def l70 (F : List (List DV)) : LSpec := fun st => .one (.ex 0) (St.of [(3, .d (.sla false 7 F))] [(35, none)])
def lf (F : List (List DV)) (k : Nat) : Option LSpec := if k = 70 then some (l70 F) else none
theorem t23 (L n : Nat) (es : List (List DV)) (id : Int) : FK tab spD7 lsp0 L (n+8) 23 [.sl .ro 7 es, .int .i64 id] =
   (need (fndS.D [DV.sl SK.ro 7 es, DV.int .i64 id])
 (bif decide (fI es id < (0 : Int)) then
 some
 (DV.tuple
 [DV.sl SK.ro 7 es,
 DV.agg
 [DV.int .i64 0, DV.int .i64 0, DV.int .i64 0, DV.int .i64 0, DV.int .i64 0, DV.int .i64 0, DV.int .i64 0], DV.int .i64 4])
 else
 bif decide (es.length = (0 : Nat)) then
 need (delS.D [DV.mv (38 : TypeId) (7 : Nat) [], DV.int .i64 (fI es id), DV.int .i64 (IntKind.i64.wrap (fI es id + (1 : Int)))])
 (bif decide ((0 : Int) ≤ fI es id) then
 lookK es[(fI es id).toNat]? fun (e5 : List DV) =>
 bif
 okRow
 [DV.int .i64 0, DV.int .i64 0, DV.int .i64 0, DV.int .i64 0, DV.int .i64 0, DV.int .i64 0, DV.int .i64 0]
 e5 then
 some
 (DV.tuple
 [DV.sl (SK.own (38 : TypeId)) (7 : Nat) (delB [] (fI es id).toNat),
 DV.agg
 [DV.int .i64 (cellA e5 0).toI, DV.int .i64 (cellA e5 1).toI, DV.int .i64 (cellA e5 2).toI, DV.int .i64 (cellA e5 3).toI, DV.int .i64 (cellA e5 4).toI, DV.int .i64 (cellA e5 5).toI, DV.int .i64 (cellA e5 6).toI], DV.int .i64 0])
 else none
 else none)
 else
 bif es.all fun (e : List DV) => e.length == (7 : Nat) && e.all DV.one then
 bif decide (es.length * (56 : Nat) ≤ room ∧ es.length ≤ room) then
 need (delS.D [DV.mv (38 : TypeId) (7 : Nat) es, DV.int .i64 (fI es id), DV.int .i64 (IntKind.i64.wrap (fI es id + (1 : Int)))])
 (bif decide ((0 : Int) ≤ fI es id) then
 lookK es[(fI es id).toNat]? fun (e9 : List DV) =>
 bif
 okRow
 [DV.int .i64 0, DV.int .i64 0, DV.int .i64 0, DV.int .i64 0, DV.int .i64 0, DV.int .i64 0, DV.int .i64 0]
 e9 then
 some
 (DV.tuple
 [DV.sl (SK.own (38 : TypeId)) (7 : Nat) (delB es (fI es id).toNat),
 DV.agg
 [DV.int .i64 (cellA e9 0).toI, DV.int .i64 (cellA e9 1).toI, DV.int .i64 (cellA e9 2).toI, DV.int .i64 (cellA e9 3).toI, DV.int .i64 (cellA e9 4).toI, DV.int .i64 (cellA e9 5).toI, DV.int .i64 (cellA e9 6).toI], DV.int .i64 0])
 else none
 else none)
 else none
 else none)) :=
  (show FK tab spD7 lsp0 L (n+8) 23 [.sl .ro 7 es, .int .i64 id] =
 (need (FSpec.D (fndS) [(.sl (SK.ro) 7 es), (.int .i64 id)])
 (cond (decide (fI (rowsA (DV.sl SK.ro 7 es)) id < (0 : Int)))
 (some (.tuple [(.sl (SK.ro) 7 es), (.agg [(.int .i64 ((0 : Int))), (.int .i64 ((0 : Int))), (.int .i64 ((0 : Int))), (.int .i64 ((0 : Int))), (.int .i64 ((0 : Int))), (.int .i64 ((0 : Int))), (.int .i64 ((0 : Int)))]), (.int .i64 ((4 : Int)))]))
 (cond (decide (es.length = (0 : Nat)))
 (need (FSpec.D (delS) [(.mv 38 7 []), (.int .i64 (fI (rowsA (DV.sl SK.ro 7 es)) id)), (.int .i64 (IntKind.i64.wrap (fI (rowsA (DV.sl SK.ro 7 es)) id + (1 : Int))))])
 (cond (decide ((0 : Int) ≤ fI (rowsA (DV.sl SK.ro 7 es)) id))
 (lookK (es[(fI (rowsA (DV.sl SK.ro 7 es)) id).toNat]?)
 fun e5 =>
 (cond (okRow [DV.int .i64 0, DV.int .i64 0, DV.int .i64 0, DV.int .i64 0, DV.int .i64 0, DV.int .i64 0, DV.int .i64 0] e5)
 (cond (decide ((delB [] (fI (rowsA (DV.sl SK.ro 7 es)) id).toNat).length = (delB [] (fI (rowsA (DV.sl SK.ro 7 es)) id).toNat).length))
 (some (.tuple [(.sl (SK.own (38 : TypeId)) 7 (delB [] (fI (rowsA (DV.sl SK.ro 7 es)) id).toNat)), (.agg [(.int .i64 ((cellA e5 0).toI)), (.int .i64 ((cellA e5 1).toI)), (.int .i64 ((cellA e5 2).toI)), (.int .i64 ((cellA e5 3).toI)), (.int .i64 ((cellA e5 4).toI)), (.int .i64 ((cellA e5 5).toI)), (.int .i64 ((cellA e5 6).toI))]), (.int .i64 ((0 : Int)))]))
 (cond (decide ((0 : Nat) + (delB [] (fI (rowsA (DV.sl SK.ro 7 es)) id).toNat).length ≤ (delB [] (fI (rowsA (DV.sl SK.ro 7 es)) id).toNat).length))
 (some (.tuple [(.sl (SK.ro) 7 (List.take (delB [] (fI (rowsA (DV.sl SK.ro 7 es)) id).toNat).length (delB [] (fI (rowsA (DV.sl SK.ro 7 es)) id).toNat))), (.agg [(.int .i64 ((cellA e5 0).toI)), (.int .i64 ((cellA e5 1).toI)), (.int .i64 ((cellA e5 2).toI)), (.int .i64 ((cellA e5 3).toI)), (.int .i64 ((cellA e5 4).toI)), (.int .i64 ((cellA e5 5).toI)), (.int .i64 ((cellA e5 6).toI))]), (.int .i64 ((0 : Int)))]))
 none))
 none))
 none))
 (cond (es.all fun (e : List DV) => e.length == (7 : Nat) && e.all DV.one)
 (cond (decide ((38 : Nat) = (38 : Nat) ∧ (7 : Nat) = (7 : Nat) ∧ (7 : Nat) = (7 : Nat) ∧ (0 : Nat) = (0 : Nat) ∧ (0 : Nat) = (0 : Nat) ∧ es.length * (56 : Nat) ≤ room ∧ es.length ≤ room))
 (cond (decide (es.length = es.length))
 (cond (decide ((7 : Nat) = (7 : Nat) ∧ (0 : Nat) = (0 : Nat) ∧ es.length = es.length))
 (need (FSpec.D (delS) [(.mv 38 7 es), (.int .i64 (fI (rowsA (DV.sl SK.ro 7 es)) id)), (.int .i64 (IntKind.i64.wrap (fI (rowsA (DV.sl SK.ro 7 es)) id + (1 : Int))))])
 (cond (decide ((0 : Int) ≤ fI (rowsA (DV.sl SK.ro 7 es)) id))
 (lookK (es[(fI (rowsA (DV.sl SK.ro 7 es)) id).toNat]?)
 fun e9 =>
 (cond (okRow [DV.int .i64 0, DV.int .i64 0, DV.int .i64 0, DV.int .i64 0, DV.int .i64 0, DV.int .i64 0, DV.int .i64 0] e9)
 (cond (decide ((delB es (fI (rowsA (DV.sl SK.ro 7 es)) id).toNat).length = (delB es (fI (rowsA (DV.sl SK.ro 7 es)) id).toNat).length))
 (some (.tuple [(.sl (SK.own (38 : TypeId)) 7 (delB es (fI (rowsA (DV.sl SK.ro 7 es)) id).toNat)), (.agg [(.int .i64 ((cellA e9 0).toI)), (.int .i64 ((cellA e9 1).toI)), (.int .i64 ((cellA e9 2).toI)), (.int .i64 ((cellA e9 3).toI)), (.int .i64 ((cellA e9 4).toI)), (.int .i64 ((cellA e9 5).toI)), (.int .i64 ((cellA e9 6).toI))]), (.int .i64 ((0 : Int)))]))
 (cond (decide ((0 : Nat) + (delB es (fI (rowsA (DV.sl SK.ro 7 es)) id).toNat).length ≤ (delB es (fI (rowsA (DV.sl SK.ro 7 es)) id).toNat).length))
 (some (.tuple [(.sl (SK.ro) 7 (List.take (delB es (fI (rowsA (DV.sl SK.ro 7 es)) id).toNat).length (delB es (fI (rowsA (DV.sl SK.ro 7 es)) id).toNat))), (.agg [(.int .i64 ((cellA e9 0).toI)), (.int .i64 ((cellA e9 1).toI)), (.int .i64 ((cellA e9 2).toI)), (.int .i64 ((cellA e9 3).toI)), (.int .i64 ((cellA e9 4).toI)), (.int .i64 ((cellA e9 5).toI)), (.int .i64 ((cellA e9 6).toI))]), (.int .i64 ((0 : Int)))]))
 none))
 none))
 none))
 none)
 (cond (decide ((0 : Nat) + es.length ≤ es.length))
 (need (FSpec.D (delS) [(.sl (SK.ro) 7 (List.take es.length es)), (.int .i64 (fI (rowsA (DV.sl SK.ro 7 es)) id)), (.int .i64 (IntKind.i64.wrap (fI (rowsA (DV.sl SK.ro 7 es)) id + (1 : Int))))])
 none)
 none))
 none)
 none)))) from by kernel_rfl).trans (by first | rfl | (simp only [decide_true, decide_false, eq_self, and_true, true_and, and_self, cond_true, cond_false, Nat.le_refl, Int.le_refl, Option.getD_some, Option.getD_none, Int.toNat_natCast, List.take_length, List.drop_zero, Nat.zero_add, List.nil_append, List.all_nil, List.append_nil, Bool.true_and, Bool.and_true, rowsA_sla, rowsA_sl, rowsA_nil, minus_zero, nat_le_cast, nat_nonneg, Option.isSome_some, Option.isSome_none, Bool.false_eq_true, false_and, and_false, if_true, if_false, implies_true, Int.toNat_zero, Bool.not_false, Bool.not_true, bne_self_eq_false]; done) | (simp only [decide_true, decide_false, eq_self, and_true, true_and, and_self, cond_true, cond_false, Nat.le_refl, Int.le_refl, Option.getD_some, Option.getD_none, Int.toNat_natCast, List.take_length, List.drop_zero, Nat.zero_add, List.nil_append, List.all_nil, List.append_nil, Bool.true_and, Bool.and_true, rowsA_sla, rowsA_sl, rowsA_nil, minus_zero, nat_le_cast, nat_nonneg, Option.isSome_some, Option.isSome_none, Bool.false_eq_true, false_and, and_false, if_true, if_false, implies_true, Int.toNat_zero, Bool.not_false, Bool.not_true, bne_self_eq_false]; rfl))
theorem t23n (L n : Nat) (id : Int) : FK tab spD7 lsp0 L (n+8) 23 [.nilsl, .int .i64 id] =
   (need (fndS.D [DV.nilsl, DV.int .i64 id])
 (some
 (DV.tuple
 [DV.nilsl,
 DV.agg
 [DV.int .i64 0, DV.int .i64 0, DV.int .i64 0, DV.int .i64 0, DV.int .i64 0, DV.int .i64 0, DV.int .i64 0], DV.int .i64 4]))) :=
  (show FK tab spD7 lsp0 L (n+8) 23 [.nilsl, .int .i64 id] =
 (need (FSpec.D (fndS) [.nilsl, (.int .i64 id)])
 (some (.tuple [.nilsl, (.agg [(.int .i64 ((0 : Int))), (.int .i64 ((0 : Int))), (.int .i64 ((0 : Int))), (.int .i64 ((0 : Int))), (.int .i64 ((0 : Int))), (.int .i64 ((0 : Int))), (.int .i64 ((0 : Int)))]), (.int .i64 ((4 : Int)))]))) from by kernel_rfl).trans (by first | rfl | (simp only [decide_true, decide_false, eq_self, and_true, true_and, and_self, cond_true, cond_false, Nat.le_refl, Int.le_refl, Option.getD_some, Option.getD_none, Int.toNat_natCast, List.take_length, List.drop_zero, Nat.zero_add, List.nil_append, List.all_nil, List.append_nil, Bool.true_and, Bool.and_true, rowsA_sla, rowsA_sl, rowsA_nil, minus_zero, nat_le_cast, nat_nonneg, Option.isSome_some, Option.isSome_none, Bool.false_eq_true, false_and, and_false, if_true, if_false, implies_true, Int.toNat_zero, Bool.not_false, Bool.not_true, bne_self_eq_false]; done) | (simp only [decide_true, decide_false, eq_self, and_true, true_and, and_self, cond_true, cond_false, Nat.le_refl, Int.le_refl, Option.getD_some, Option.getD_none, Int.toNat_natCast, List.take_length, List.drop_zero, Nat.zero_add, List.nil_append, List.all_nil, List.append_nil, Bool.true_and, Bool.and_true, rowsA_sla, rowsA_sl, rowsA_nil, minus_zero, nat_le_cast, nat_nonneg, Option.isSome_some, Option.isSome_none, Bool.false_eq_true, false_and, and_false, if_true, if_false, implies_true, Int.toNat_zero, Bool.not_false, Bool.not_true, bne_self_eq_false]; rfl))
theorem s70 (F : List (List DV)) (L n : Nat) (m : Int) (l : List (List DV)) (i : Nat) (k : Kont) : LB tab spF7 (lf F) L (n+4) h70 c7l0 (S70 m (.sla false 7 l) i) k =
   (bif decide ((↑i : Int) ≤ IntKind.i64.wrap ((40 : Int) + m)) then
 need
 (putS.D
 [DV.sla false 7 l,
 DV.agg
 [DV.int .i64 (↑i : Int), DV.int .i64 ((↑i : Int).tmod (4 : Int)), DV.int .i64 0, DV.int .i64 0, DV.int .i64 (IntKind.i64.wrap ((1 : Int) + (↑i : Int).tmod (3 : Int))), DV.int .i64 0, DV.int .i64 0]])
 (bif
 bif
 !(putE l
 [DV.int .i64 (↑i : Int), DV.int .i64 ((↑i : Int).tmod (4 : Int)), DV.int .i64 0, DV.int .i64 0, DV.int .i64 (IntKind.i64.wrap ((1 : Int) + (↑i : Int).tmod (3 : Int))), DV.int .i64 0, DV.int .i64 0] ==
 (0 : Int)) ==
 decide ((↑i : Int) ≤ (40 : Int)) then
 true
 else
 bif
 putE l
 [DV.int .i64 (↑i : Int), DV.int .i64 ((↑i : Int).tmod (4 : Int)), DV.int .i64 0, DV.int .i64 0, DV.int .i64 (IntKind.i64.wrap ((1 : Int) + (↑i : Int).tmod (3 : Int))), DV.int .i64 0, DV.int .i64 0] !=
 (0 : Int) then
 putE l
 [DV.int .i64 (↑i : Int), DV.int .i64 ((↑i : Int).tmod (4 : Int)), DV.int .i64 0, DV.int .i64 0, DV.int .i64 (IntKind.i64.wrap ((1 : Int) + (↑i : Int).tmod (3 : Int))), DV.int .i64 0, DV.int .i64 0] !=
 (3 : Int)
 else false then
 k Ex.ret (St.of [(2, AV.d (DV.bool false))] [(91, none)])
 else
 k Ex.nrm
 (St.of
 [(0, AV.d (DV.int .i64 m)),
 ((3 : Nat),
 AV.d
 (DV.sla false 7
 (putL l
 [DV.int .i64 (↑i : Int), DV.int .i64 ((↑i : Int).tmod (4 : Int)), DV.int .i64 0, DV.int .i64 0, DV.int .i64 (IntKind.i64.wrap ((1 : Int) + (↑i : Int).tmod (3 : Int))), DV.int .i64 0, DV.int .i64 0]))),
 ((4 : Nat), AV.d (DV.int .i64 (IntKind.i64.wrap ((↑i : Int) + (1 : Int)))))]
 [(35, none)]))
 else k (Ex.ex (0 : Nat)) (St.of [(3, AV.d (DV.sla false 7 l))] [(35, none)])) :=
  (show LB tab spF7 (lf F) L (n+4) h70 c7l0 (S70 m (.sla false 7 l) i) k =
 (cond (decide ((↑i : Int) ≤ IntKind.i64.wrap ((40 : Int) + m)))
 (need (FSpec.D (putS) [(.sla false 7 l), (.agg [(.int .i64 ((↑i : Int))), (.int .i64 ((↑i : Int).tmod (4 : Int))), (.int .i64 ((0 : Int))), (.int .i64 ((0 : Int))), (.int .i64 (IntKind.i64.wrap ((1 : Int) + (↑i : Int).tmod (3 : Int)))), (.int .i64 ((0 : Int))), (.int .i64 ((0 : Int)))])])
 (cond (bif !(putE (rowsA (DV.sla false 7 l)) [DV.int .i64 (↑i : Int), DV.int .i64 ((↑i : Int).tmod (4 : Int)), DV.int .i64 0, DV.int .i64 0, DV.int .i64 (IntKind.i64.wrap ((1 : Int) + (↑i : Int).tmod (3 : Int))), DV.int .i64 0, DV.int .i64 0] == (0 : Int)) == decide ((↑i : Int) ≤ (40 : Int)) then true else bif putE (rowsA (DV.sla false 7 l)) [DV.int .i64 (↑i : Int), DV.int .i64 ((↑i : Int).tmod (4 : Int)), DV.int .i64 0, DV.int .i64 0, DV.int .i64 (IntKind.i64.wrap ((1 : Int) + (↑i : Int).tmod (3 : Int))), DV.int .i64 0, DV.int .i64 0] != (0 : Int) then putE (rowsA (DV.sla false 7 l)) [DV.int .i64 (↑i : Int), DV.int .i64 ((↑i : Int).tmod (4 : Int)), DV.int .i64 0, DV.int .i64 0, DV.int .i64 (IntKind.i64.wrap ((1 : Int) + (↑i : Int).tmod (3 : Int))), DV.int .i64 0, DV.int .i64 0] != (3 : Int) else false)
 (k .ret (St.of [(2, (.d (.bool false)))] [(91, .none)]))
 (k .nrm (St.of [(0, (.d (.int .i64 m))), (3, (.d (.sla false 7 (putL (rowsA (DV.sla false 7 l)) [DV.int .i64 (↑i : Int), DV.int .i64 ((↑i : Int).tmod (4 : Int)), DV.int .i64 0, DV.int .i64 0, DV.int .i64 (IntKind.i64.wrap ((1 : Int) + (↑i : Int).tmod (3 : Int))), DV.int .i64 0, DV.int .i64 0])))), (4, (.d (.int .i64 (IntKind.i64.wrap ((↑i : Int) + (1 : Int))))))] [(35, .none)]))))
 (k (.ex 0) (St.of [(3, (.d (.sla false 7 l)))] [(35, .none)]))) from by kernel_rfl).trans (by first | rfl | (simp only [decide_true, decide_false, eq_self, and_true, true_and, and_self, cond_true, cond_false, Nat.le_refl, Int.le_refl, Option.getD_some, Option.getD_none, Int.toNat_natCast, List.take_length, List.drop_zero, Nat.zero_add, List.nil_append, List.all_nil, List.append_nil, Bool.true_and, Bool.and_true, rowsA_sla, rowsA_sl, rowsA_nil, minus_zero, nat_le_cast, nat_nonneg, Option.isSome_some, Option.isSome_none, Bool.false_eq_true, false_and, and_false, if_true, if_false, implies_true, Int.toNat_zero, Bool.not_false, Bool.not_true, bne_self_eq_false]; done) | (simp only [decide_true, decide_false, eq_self, and_true, true_and, and_self, cond_true, cond_false, Nat.le_refl, Int.le_refl, Option.getD_some, Option.getD_none, Int.toNat_natCast, List.take_length, List.drop_zero, Nat.zero_add, List.nil_append, List.all_nil, List.append_nil, Bool.true_and, Bool.and_true, rowsA_sla, rowsA_sl, rowsA_nil, minus_zero, nat_le_cast, nat_nonneg, Option.isSome_some, Option.isSome_none, Bool.false_eq_true, false_and, and_false, if_true, if_false, implies_true, Int.toNat_zero, Bool.not_false, Bool.not_true, bne_self_eq_false]; rfl))
theorem s70n (F : List (List DV)) (L n : Nat) (m : Int) (k : Kont) : LB tab spF7 (lf F) L (n+4) h70 c7l0 (S70 m .nilsl 1) k =
   (bif decide ((1 : Int) ≤ IntKind.i64.wrap ((40 : Int) + m)) then
 need
 (putS.D
 [DV.nilsl,
 DV.agg
 [DV.int .i64 1, DV.int .i64 1, DV.int .i64 0, DV.int .i64 0, DV.int .i64 (IntKind.i64.wrap (2 : Int)), DV.int .i64 0, DV.int .i64 0]])
 (k Ex.nrm
 (St.of
 [(0, AV.d (DV.int .i64 m)),
 ((3 : Nat),
 AV.d
 (DV.sla false 7
 [[DV.int .i64 1, DV.int .i64 1, DV.int .i64 0, DV.int .i64 0, DV.int .i64 (IntKind.i64.wrap (2 : Int)), DV.int .i64 0, DV.int .i64 0]])),
 ((4 : Nat), AV.d (DV.int .i64 (IntKind.i64.wrap (2 : Int))))]
 [(35, none)]))
 else k (Ex.ex (0 : Nat)) (St.of [(3, AV.d DV.nilsl)] [(35, none)])) :=
  (show LB tab spF7 (lf F) L (n+4) h70 c7l0 (S70 m .nilsl 1) k =
 (cond (decide ((1 : Int) ≤ IntKind.i64.wrap ((40 : Int) + m)))
 (need (FSpec.D (putS) [.nilsl, (.agg [(.int .i64 ((1 : Int))), (.int .i64 ((1 : Int))), (.int .i64 ((0 : Int))), (.int .i64 ((0 : Int))), (.int .i64 (IntKind.i64.wrap (2 : Int))), (.int .i64 ((0 : Int))), (.int .i64 ((0 : Int)))])])
 (k .nrm (St.of [(0, (.d (.int .i64 m))), (3, (.d (.sla false 7 [[(.int .i64 ((1 : Int))), (.int .i64 ((1 : Int))), (.int .i64 ((0 : Int))), (.int .i64 ((0 : Int))), (.int .i64 (IntKind.i64.wrap (2 : Int))), (.int .i64 ((0 : Int))), (.int .i64 ((0 : Int)))]]))), (4, (.d (.int .i64 (IntKind.i64.wrap (2 : Int)))))] [(35, .none)])))
 (k (.ex 0) (St.of [(3, (.d .nilsl))] [(35, .none)]))) from by kernel_rfl).trans (by first | rfl | (simp only [decide_true, decide_false, eq_self, and_true, true_and, and_self, cond_true, cond_false, Nat.le_refl, Int.le_refl, Option.getD_some, Option.getD_none, Int.toNat_natCast, List.take_length, List.drop_zero, Nat.zero_add, List.nil_append, List.all_nil, List.append_nil, Bool.true_and, Bool.and_true, rowsA_sla, rowsA_sl, rowsA_nil, minus_zero, nat_le_cast, nat_nonneg, Option.isSome_some, Option.isSome_none, Bool.false_eq_true, false_and, and_false, if_true, if_false, implies_true, Int.toNat_zero, Bool.not_false, Bool.not_true, bne_self_eq_false]; done) | (simp only [decide_true, decide_false, eq_self, and_true, true_and, and_self, cond_true, cond_false, Nat.le_refl, Int.le_refl, Option.getD_some, Option.getD_none, Int.toNat_natCast, List.take_length, List.drop_zero, Nat.zero_add, List.nil_append, List.all_nil, List.append_nil, Bool.true_and, Bool.and_true, rowsA_sla, rowsA_sl, rowsA_nil, minus_zero, nat_le_cast, nat_nonneg, Option.isSome_some, Option.isSome_none, Bool.false_eq_true, false_and, and_false, if_true, if_false, implies_true, Int.toNat_zero, Bool.not_false, Bool.not_true, bne_self_eq_false]; rfl))
theorem t7 (F : List (List DV)) (L n : Nat) (m : Int) : FK tab spF7 (lf F) L (n+8) 7 [.int .i64 m] =
   (bif bif decide (m < (0 : Int)) then true else decide (m > (20 : Int)) then some (DV.bool true)
 else
 need
 (LoopOk (LB tab spF7 (lf F) L (n + (8 : Nat)) h70 c7l0)
 (St.of [(0, AV.d (DV.int .i64 m)), (3, AV.d DV.nilsl), (4, AV.d (DV.int .i64 1))] [(35, none)])
 (Ex.ex (0 : Nat), St.of [(3, AV.d (DV.sla false 7 F))] [(35, none)]))
 (need (drpS.D [DV.sla false 7 F, DV.int .i64 5])
 (need
 (putS.D
 [DV.sla false 7 (dropL F (5 : Int)),
 DV.agg
 [DV.int .i64 900, DV.int .i64 0, DV.int .i64 0, DV.int .i64 0, DV.int .i64 1, DV.int .i64 0, DV.int .i64 0]])
 (need
 (putS.D
 [DV.sla false 7 (dropL F (5 : Int)),
 DV.agg
 [DV.int .i64 6, DV.int .i64 0, DV.int .i64 0, DV.int .i64 0, DV.int .i64 0, DV.int .i64 0, DV.int .i64 0]])
 (bif
 bif
 bif
 bif bif (↑F.length : Int) == (40 : Int) then dropE F (5 : Int) == (0 : Int) else false then
 (cellA (dropP F (5 : Int)) 0).toI == (5 : Int)
 else false then
 putE (dropL F (5 : Int))
 [DV.int .i64 900, DV.int .i64 0, DV.int .i64 0, DV.int .i64 0, DV.int .i64 1, DV.int .i64 0, DV.int .i64 0] ==
 (0 : Int)
 else false then
 putE (dropL F (5 : Int))
 [DV.int .i64 6, DV.int .i64 0, DV.int .i64 0, DV.int .i64 0, DV.int .i64 0, DV.int .i64 0, DV.int .i64 0] ==
 (6 : Int)
 else false then
 need (kno7.D []) (some (DV.bool true))
 else some (DV.bool false)))))) :=
  (show FK tab spF7 (lf F) L (n+8) 7 [.int .i64 m] =
 (cond (bif decide (m < (0 : Int)) then true else decide (m > (20 : Int)))
 (some (.bool true))
 (need (LoopOk (LB tab spF7 (lf F) L (n + (8 : Nat)) h70 c7l0) (St.of [(0, (.d (.int .i64 m))), (3, (.d .nilsl)), (4, (.d (.int .i64 ((1 : Int)))))] [(35, .none)]) ((.ex 0), (St.of [(3, (.d (.sla false 7 F)))] [(35, .none)])))
 (need (FSpec.D (drpS) [(.sla false 7 F), (.int .i64 ((5 : Int)))])
 (need (FSpec.D (putS) [(.sla false 7 (dropL (rowsA (DV.sla false 7 F)) (5 : Int))), (.agg [(.int .i64 ((900 : Int))), (.int .i64 ((0 : Int))), (.int .i64 ((0 : Int))), (.int .i64 ((0 : Int))), (.int .i64 ((1 : Int))), (.int .i64 ((0 : Int))), (.int .i64 ((0 : Int)))])])
 (need (FSpec.D (putS) [(.sla false 7 (dropL (rowsA (DV.sla false 7 F)) (5 : Int))), (.agg [(.int .i64 ((6 : Int))), (.int .i64 ((0 : Int))), (.int .i64 ((0 : Int))), (.int .i64 ((0 : Int))), (.int .i64 ((0 : Int))), (.int .i64 ((0 : Int))), (.int .i64 ((0 : Int)))])])
 (cond (bif bif bif bif (↑F.length : Int) == (40 : Int) then dropE (rowsA (DV.sla false 7 F)) (5 : Int) == (0 : Int) else false then (cellA (dropP (rowsA (DV.sla false 7 F)) (5 : Int)) (0 : Nat)).toI == (5 : Int) else false then putE (rowsA (DV.sla false 7 (dropL (rowsA (DV.sla false 7 F)) (5 : Int)))) [DV.int .i64 900, DV.int .i64 0, DV.int .i64 0, DV.int .i64 0, DV.int .i64 1, DV.int .i64 0, DV.int .i64 0] == (0 : Int) else false then putE (rowsA (DV.sla false 7 (dropL (rowsA (DV.sla false 7 F)) (5 : Int)))) [DV.int .i64 6, DV.int .i64 0, DV.int .i64 0, DV.int .i64 0, DV.int .i64 0, DV.int .i64 0, DV.int .i64 0] == (6 : Int) else false)
 (need (FSpec.D (kno7) [])
 (some (.bool true)))
 (some (.bool false)))))))) from by kernel_rfl).trans (by first | rfl | (simp only [decide_true, decide_false, eq_self, and_true, true_and, and_self, cond_true, cond_false, Nat.le_refl, Int.le_refl, Option.getD_some, Option.getD_none, Int.toNat_natCast, List.take_length, List.drop_zero, Nat.zero_add, List.nil_append, List.all_nil, List.append_nil, Bool.true_and, Bool.and_true, rowsA_sla, rowsA_sl, rowsA_nil, minus_zero, nat_le_cast, nat_nonneg, Option.isSome_some, Option.isSome_none, Bool.false_eq_true, false_and, and_false, if_true, if_false, implies_true, Int.toNat_zero, Bool.not_false, Bool.not_true, bne_self_eq_false]; done) | (simp only [decide_true, decide_false, eq_self, and_true, true_and, and_self, cond_true, cond_false, Nat.le_refl, Int.le_refl, Option.getD_some, Option.getD_none, Int.toNat_natCast, List.take_length, List.drop_zero, Nat.zero_add, List.nil_append, List.all_nil, List.append_nil, Bool.true_and, Bool.and_true, rowsA_sla, rowsA_sl, rowsA_nil, minus_zero, nat_le_cast, nat_nonneg, Option.isSome_some, Option.isSome_none, Bool.false_eq_true, false_and, and_false, if_true, if_false, implies_true, Int.toNat_zero, Bool.not_false, Bool.not_true, bne_self_eq_false]; rfl))
end Go.Proofs.Ytngghbloijkfoaa
