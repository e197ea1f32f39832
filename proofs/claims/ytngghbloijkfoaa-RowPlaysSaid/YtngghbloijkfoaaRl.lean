/- What is known of the functions on rows of payments, by their runs: ahead of, behind all like it. No condition. -/
import Derived.Test.YtngghbloijkfoaaRk
namespace Go.Proofs.Ytngghbloijkfoaa
open Go Go.Proofs Go.RowKit Vm
set_option linter.unusedVariables false
set_option linter.unusedSimpArgs false
/-- the place ahead of all that a payment may stand ahead of -/
def frP (l : List (List DV)) (p : List DV) : Nat := (l.takeWhile fun e => decide (ordI e p < 0)).length
def frnL (es : List (List DV)) (id : Int) : List (List DV) := cond (decide (fI es id < 0)) es ((dropL es id).take (frP (dropL es id) (dropP es id)) ++ (dropP es id :: (dropL es id).drop (frP (dropL es id) (dropP es id))))
def frnE (es : List (List DV)) (id : Int) : Int := cond (decide (fI es id < 0)) 4 0
def bakL (es : List (List DV)) (id : Int) : List (List DV) := cond (decide (fI es id < 0)) es (putL (dropL es id) (pay7 (dropP es id)))
def bakE (es : List (List DV)) (id : Int) : Int := cond (decide (fI es id < 0)) 4 (putE (dropL es id) (pay7 (dropP es id)))
def bakS : FSpec where
  D ds := ∃ x id, ds = [x, .int .i64 id] ∧ I7 1000 x
  val ds := match ds with | [x, .int _ id] => some (.tuple [.sla false 7 (bakL (rowsA x) id), .int .i64 (bakE (rowsA x) id)]) | _ => none
noncomputable def spN7 : FuncId → Option FSpec := spAdd 34 fndS (spAdd 43 delS (spAdd 41 insP noSp))
def l280 : LSpec := fun st => match st.env 6, st.env 7, st.seg 7, st.seg 100013 with
  | .d x, v, some (.dat a b [p]), o => .one (.ex 0) (St.of [(6, .d x), (7, v), (9, .d (.int .i64 (frP (rowsA x) p)))] [(13, none), (100013, o), (7, some (.dat a b [p]))])
  | .aref s z o n, v, some (.dat a b [p]), some (.dat a2 b2 es) => .one (.ex 0) (St.of [(6, .aref s z o n), (7, v), (9, .d (.int .i64 (frP es p)))] [(13, none), (100013, some (.dat a2 b2 es)), (7, some (.dat a b [p]))])
  | _, _, _, _ => .no
def lq (k : Nat) : Option LSpec := if k = 280 then some l280 else none
theorem t29 (L n : Nat) (es : List (List DV)) (id : Int) : FK tab spC7 lsp0 L (n+8) 29 [.sla false 7 es, .int .i64 id] =
   (need (drpS.D [DV.sla false 7 es, DV.int .i64 id])
 (bif dropE es id != (0 : Int) then some (DV.tuple [DV.sla false 7 es, DV.int .i64 (dropE es id)])
 else
 need
 (putS.D
 [DV.sla false 7 (dropL es id),
 DV.agg
 [DV.int .i64 (cellA (dropP es id) 0).toI, DV.int .i64 (cellA (dropP es id) 1).toI, DV.int .i64 (cellA (dropP es id) 2).toI, DV.int .i64 (cellA (dropP es id) 3).toI, DV.int .i64 (cellA (dropP es id) 4).toI, DV.int .i64 (cellA (dropP es id) 5).toI, DV.int .i64 (cellA (dropP es id) 6).toI]])
 (some
 (DV.tuple
 [DV.sla false 7
 (putL (dropL es id)
 [DV.int .i64 (cellA (dropP es id) 0).toI, DV.int .i64 (cellA (dropP es id) 1).toI, DV.int .i64 (cellA (dropP es id) 2).toI, DV.int .i64 (cellA (dropP es id) 3).toI, DV.int .i64 (cellA (dropP es id) 4).toI, DV.int .i64 (cellA (dropP es id) 5).toI, DV.int .i64 (cellA (dropP es id) 6).toI]), DV.int .i64
 (putE (dropL es id)
 [DV.int .i64 (cellA (dropP es id) 0).toI, DV.int .i64 (cellA (dropP es id) 1).toI, DV.int .i64 (cellA (dropP es id) 2).toI, DV.int .i64 (cellA (dropP es id) 3).toI, DV.int .i64 (cellA (dropP es id) 4).toI, DV.int .i64 (cellA (dropP es id) 5).toI, DV.int .i64 (cellA (dropP es id) 6).toI])])))) :=
  (show FK tab spC7 lsp0 L (n+8) 29 [.sla false 7 es, .int .i64 id] =
 (need (FSpec.D (drpS) [(.sla false 7 es), (.int .i64 id)])
 (cond (dropE (rowsA (DV.sla false 7 es)) id != (0 : Int))
 (some (.tuple [(.sla false 7 es), (.int .i64 (dropE (rowsA (DV.sla false 7 es)) id))]))
 (need (FSpec.D (putS) [(.sla false 7 (dropL (rowsA (DV.sla false 7 es)) id)), (.agg [(.int .i64 ((cellA (dropP (rowsA (DV.sla false 7 es)) id) (0 : Nat)).toI)), (.int .i64 ((cellA (dropP (rowsA (DV.sla false 7 es)) id) (1 : Nat)).toI)), (.int .i64 ((cellA (dropP (rowsA (DV.sla false 7 es)) id) (2 : Nat)).toI)), (.int .i64 ((cellA (dropP (rowsA (DV.sla false 7 es)) id) (3 : Nat)).toI)), (.int .i64 ((cellA (dropP (rowsA (DV.sla false 7 es)) id) (4 : Nat)).toI)), (.int .i64 ((cellA (dropP (rowsA (DV.sla false 7 es)) id) (5 : Nat)).toI)), (.int .i64 ((cellA (dropP (rowsA (DV.sla false 7 es)) id) (6 : Nat)).toI))])])
 (some (.tuple [(.sla false 7 (putL (rowsA (DV.sla false 7 (dropL (rowsA (DV.sla false 7 es)) id))) [DV.int .i64 (cellA (dropP (rowsA (DV.sla false 7 es)) id) (0 : Nat)).toI, DV.int .i64 (cellA (dropP (rowsA (DV.sla false 7 es)) id) (1 : Nat)).toI, DV.int .i64 (cellA (dropP (rowsA (DV.sla false 7 es)) id) (2 : Nat)).toI, DV.int .i64 (cellA (dropP (rowsA (DV.sla false 7 es)) id) (3 : Nat)).toI, DV.int .i64 (cellA (dropP (rowsA (DV.sla false 7 es)) id) (4 : Nat)).toI, DV.int .i64 (cellA (dropP (rowsA (DV.sla false 7 es)) id) (5 : Nat)).toI, DV.int .i64 (cellA (dropP (rowsA (DV.sla false 7 es)) id) (6 : Nat)).toI])), (.int .i64 (putE (rowsA (DV.sla false 7 (dropL (rowsA (DV.sla false 7 es)) id))) [DV.int .i64 (cellA (dropP (rowsA (DV.sla false 7 es)) id) (0 : Nat)).toI, DV.int .i64 (cellA (dropP (rowsA (DV.sla false 7 es)) id) (1 : Nat)).toI, DV.int .i64 (cellA (dropP (rowsA (DV.sla false 7 es)) id) (2 : Nat)).toI, DV.int .i64 (cellA (dropP (rowsA (DV.sla false 7 es)) id) (3 : Nat)).toI, DV.int .i64 (cellA (dropP (rowsA (DV.sla false 7 es)) id) (4 : Nat)).toI, DV.int .i64 (cellA (dropP (rowsA (DV.sla false 7 es)) id) (5 : Nat)).toI, DV.int .i64 (cellA (dropP (rowsA (DV.sla false 7 es)) id) (6 : Nat)).toI]))]))))) from by kernel_rfl).trans (by first | rfl | (simp only [decide_true, decide_false, eq_self, and_true, true_and, and_self, cond_true, cond_false, Nat.le_refl, Int.le_refl, Option.getD_some, Option.getD_none, Int.toNat_natCast, List.take_length, List.drop_zero, Nat.zero_add, List.nil_append, List.all_nil, List.append_nil, Bool.true_and, Bool.and_true, rowsA_sla, rowsA_sl, rowsA_nil, minus_zero, nat_le_cast, nat_nonneg, Option.isSome_some, Option.isSome_none, Bool.false_eq_true, false_and, and_false, if_true, if_false, implies_true, Int.toNat_zero, Bool.not_false, Bool.not_true, bne_self_eq_false]; done) | (simp only [decide_true, decide_false, eq_self, and_true, true_and, and_self, cond_true, cond_false, Nat.le_refl, Int.le_refl, Option.getD_some, Option.getD_none, Int.toNat_natCast, List.take_length, List.drop_zero, Nat.zero_add, List.nil_append, List.all_nil, List.append_nil, Bool.true_and, Bool.and_true, rowsA_sla, rowsA_sl, rowsA_nil, minus_zero, nat_le_cast, nat_nonneg, Option.isSome_some, Option.isSome_none, Bool.false_eq_true, false_and, and_false, if_true, if_false, implies_true, Int.toNat_zero, Bool.not_false, Bool.not_true, bne_self_eq_false]; rfl))
theorem t28 (L n : Nat) (es : List (List DV)) (id : Int) : FK tab spN7 lq L (n+8) 28 [.sl .ro 7 es, .int .i64 id] =
   (need (fndS.D [DV.sl SK.ro 7 es, DV.int .i64 id])
 (bif decide (fI es id < (0 : Int)) then some (DV.tuple [DV.sl SK.ro 7 es, DV.int .i64 4])
 else
 bif decide (es.length = (0 : Nat)) then
 need (delS.D [DV.mv (38 : TypeId) (7 : Nat) [], DV.int .i64 (fI es id), DV.int .i64 (IntKind.i64.wrap (fI es id + (1 : Int)))])
 (bif decide ((0 : Int) ≤ fI es id) then
 lookK es[(fI es id).toNat]? fun (e5 : List DV) =>
 bif
 okRow
 [DV.int .i64 0, DV.int .i64 0, DV.int .i64 0, DV.int .i64 0, DV.int .i64 0, DV.int .i64 0, DV.int .i64 0]
 e5 then
 need
 (LoopOk (LB tab spN7 lq L (n + (8 : Nat)) h280 c28l0)
 (St.of
 [(6, AV.aref 100013 7 0 (delB [] (fI es id).toNat).length),
 ((7 : Nat), AV.ptr 7 7 0 0), (9, AV.d (DV.int .i64 0))]
 [(13, none), (100013, some (Ob.dat 38 7 (delB [] (fI es id).toNat))),
 ((7 : Nat),
 some
 (Ob.dat 38 7
 [[DV.int .i64 (cellA e5 0).toI, DV.int .i64 (cellA e5 1).toI, DV.int .i64 (cellA e5 2).toI, DV.int .i64 (cellA e5 3).toI, DV.int .i64 (cellA e5 4).toI, DV.int .i64 (cellA e5 5).toI, DV.int .i64 (cellA e5 6).toI]]))])
 (Ex.ex (0 : Nat),
 St.of
 [(6, AV.aref 100013 7 0 (delB [] (fI es id).toNat).length),
 ((7 : Nat), AV.ptr 7 7 0 0),
 ((9 : Nat),
 AV.d
 (DV.int .i64
 (↑(frP (delB [] (fI es id).toNat)
 [DV.int .i64 (cellA e5 0).toI, DV.int .i64 (cellA e5 1).toI, DV.int .i64 (cellA e5 2).toI, DV.int .i64 (cellA e5 3).toI, DV.int .i64 (cellA e5 4).toI, DV.int .i64 (cellA e5 5).toI, DV.int .i64 (cellA e5 6).toI]) :
 Int)))]
 [(13, none), (100013, some (Ob.dat 38 7 (delB [] (fI es id).toNat))),
 ((7 : Nat),
 some
 (Ob.dat 38 7
 [[DV.int .i64 (cellA e5 0).toI, DV.int .i64 (cellA e5 1).toI, DV.int .i64 (cellA e5 2).toI, DV.int .i64 (cellA e5 3).toI, DV.int .i64 (cellA e5 4).toI, DV.int .i64 (cellA e5 5).toI, DV.int .i64 (cellA e5 6).toI]]))]))
 (need
 (insP.D
 [DV.mv (38 : TypeId) (7 : Nat) (delB [] (fI es id).toNat), DV.int .i64
 (↑(frP (delB [] (fI es id).toNat)
 [DV.int .i64 (cellA e5 0).toI, DV.int .i64 (cellA e5 1).toI, DV.int .i64 (cellA e5 2).toI, DV.int .i64 (cellA e5 3).toI, DV.int .i64 (cellA e5 4).toI, DV.int .i64 (cellA e5 5).toI, DV.int .i64 (cellA e5 6).toI]) :
 Int),
 DV.sl SK.tight 7
 [[DV.int .i64 (cellA e5 0).toI, DV.int .i64 (cellA e5 1).toI, DV.int .i64 (cellA e5 2).toI, DV.int .i64 (cellA e5 3).toI, DV.int .i64 (cellA e5 4).toI, DV.int .i64 (cellA e5 5).toI, DV.int .i64 (cellA e5 6).toI]]])
 (some
 (DV.tuple
 [DV.sl (SK.own (38 : TypeId)) (7 : Nat)
 (List.take
 (frP (delB [] (fI es id).toNat)
 [DV.int .i64 (cellA e5 0).toI, DV.int .i64 (cellA e5 1).toI, DV.int .i64 (cellA e5 2).toI, DV.int .i64 (cellA e5 3).toI, DV.int .i64 (cellA e5 4).toI, DV.int .i64 (cellA e5 5).toI, DV.int .i64 (cellA e5 6).toI])
 (delB [] (fI es id).toNat) ++
 ([[DV.int .i64 (cellA e5 0).toI, DV.int .i64 (cellA e5 1).toI, DV.int .i64 (cellA e5 2).toI, DV.int .i64 (cellA e5 3).toI, DV.int .i64 (cellA e5 4).toI, DV.int .i64 (cellA e5 5).toI, DV.int .i64 (cellA e5 6).toI]] ++
 List.drop
 (frP (delB [] (fI es id).toNat)
 [DV.int .i64 (cellA e5 0).toI, DV.int .i64 (cellA e5 1).toI, DV.int .i64 (cellA e5 2).toI, DV.int .i64 (cellA e5 3).toI, DV.int .i64 (cellA e5 4).toI, DV.int .i64 (cellA e5 5).toI, DV.int .i64 (cellA e5 6).toI])
 (delB [] (fI es id).toNat))), DV.int .i64 0])))
 else none
 else none)
 else
 bif es.all fun (e : List DV) => e.length == (7 : Nat) && e.all DV.one then
 bif decide (es.length * (56 : Nat) ≤ room ∧ es.length ≤ room) then
 need (delS.D [DV.mv (38 : TypeId) (7 : Nat) es, DV.int .i64 (fI es id), DV.int .i64 (IntKind.i64.wrap (fI es id + (1 : Int)))])
 (bif decide ((0 : Int) ≤ fI es id) then
 lookK es[(fI es id).toNat]? fun (e9 : List DV) =>
 bif
 okRow
 [DV.int .i64 0, DV.int .i64 0, DV.int .i64 0, DV.int .i64 0, DV.int .i64 0, DV.int .i64 0, DV.int .i64 0]
 e9 then
 need
 (LoopOk (LB tab spN7 lq L (n + (8 : Nat)) h280 c28l0)
 (St.of
 [(6, AV.aref 100013 7 0 (delB es (fI es id).toNat).length),
 ((7 : Nat), AV.ptr 7 7 0 0), (9, AV.d (DV.int .i64 0))]
 [(13, none), (100013, some (Ob.dat 38 7 (delB es (fI es id).toNat))),
 ((7 : Nat),
 some
 (Ob.dat 38 7
 [[DV.int .i64 (cellA e9 0).toI, DV.int .i64 (cellA e9 1).toI, DV.int .i64 (cellA e9 2).toI, DV.int .i64 (cellA e9 3).toI, DV.int .i64 (cellA e9 4).toI, DV.int .i64 (cellA e9 5).toI, DV.int .i64 (cellA e9 6).toI]]))])
 (Ex.ex (0 : Nat),
 St.of
 [(6, AV.aref 100013 7 0 (delB es (fI es id).toNat).length),
 ((7 : Nat), AV.ptr 7 7 0 0),
 ((9 : Nat),
 AV.d
 (DV.int .i64
 (↑(frP (delB es (fI es id).toNat)
 [DV.int .i64 (cellA e9 0).toI, DV.int .i64 (cellA e9 1).toI, DV.int .i64 (cellA e9 2).toI, DV.int .i64 (cellA e9 3).toI, DV.int .i64 (cellA e9 4).toI, DV.int .i64 (cellA e9 5).toI, DV.int .i64 (cellA e9 6).toI]) :
 Int)))]
 [(13, none), (100013, some (Ob.dat 38 7 (delB es (fI es id).toNat))),
 ((7 : Nat),
 some
 (Ob.dat 38 7
 [[DV.int .i64 (cellA e9 0).toI, DV.int .i64 (cellA e9 1).toI, DV.int .i64 (cellA e9 2).toI, DV.int .i64 (cellA e9 3).toI, DV.int .i64 (cellA e9 4).toI, DV.int .i64 (cellA e9 5).toI, DV.int .i64 (cellA e9 6).toI]]))]))
 (need
 (insP.D
 [DV.mv (38 : TypeId) (7 : Nat) (delB es (fI es id).toNat), DV.int .i64
 (↑(frP (delB es (fI es id).toNat)
 [DV.int .i64 (cellA e9 0).toI, DV.int .i64 (cellA e9 1).toI, DV.int .i64 (cellA e9 2).toI, DV.int .i64 (cellA e9 3).toI, DV.int .i64 (cellA e9 4).toI, DV.int .i64 (cellA e9 5).toI, DV.int .i64 (cellA e9 6).toI]) :
 Int),
 DV.sl SK.tight 7
 [[DV.int .i64 (cellA e9 0).toI, DV.int .i64 (cellA e9 1).toI, DV.int .i64 (cellA e9 2).toI, DV.int .i64 (cellA e9 3).toI, DV.int .i64 (cellA e9 4).toI, DV.int .i64 (cellA e9 5).toI, DV.int .i64 (cellA e9 6).toI]]])
 (some
 (DV.tuple
 [DV.sl (SK.own (38 : TypeId)) (7 : Nat)
 (List.take
 (frP (delB es (fI es id).toNat)
 [DV.int .i64 (cellA e9 0).toI, DV.int .i64 (cellA e9 1).toI, DV.int .i64 (cellA e9 2).toI, DV.int .i64 (cellA e9 3).toI, DV.int .i64 (cellA e9 4).toI, DV.int .i64 (cellA e9 5).toI, DV.int .i64 (cellA e9 6).toI])
 (delB es (fI es id).toNat) ++
 ([[DV.int .i64 (cellA e9 0).toI, DV.int .i64 (cellA e9 1).toI, DV.int .i64 (cellA e9 2).toI, DV.int .i64 (cellA e9 3).toI, DV.int .i64 (cellA e9 4).toI, DV.int .i64 (cellA e9 5).toI, DV.int .i64 (cellA e9 6).toI]] ++
 List.drop
 (frP (delB es (fI es id).toNat)
 [DV.int .i64 (cellA e9 0).toI, DV.int .i64 (cellA e9 1).toI, DV.int .i64 (cellA e9 2).toI, DV.int .i64 (cellA e9 3).toI, DV.int .i64 (cellA e9 4).toI, DV.int .i64 (cellA e9 5).toI, DV.int .i64 (cellA e9 6).toI])
 (delB es (fI es id).toNat))), DV.int .i64 0])))
 else none
 else none)
 else none
 else none)) :=
  (show FK tab spN7 lq L (n+8) 28 [.sl .ro 7 es, .int .i64 id] =
 (need (FSpec.D (fndS) [(.sl (SK.ro) 7 es), (.int .i64 id)])
 (cond (decide (fI (rowsA (DV.sl SK.ro 7 es)) id < (0 : Int)))
 (some (.tuple [(.sl (SK.ro) 7 es), (.int .i64 ((4 : Int)))]))
 (cond (decide (es.length = (0 : Nat)))
 (need (FSpec.D (delS) [(.mv 38 7 []), (.int .i64 (fI (rowsA (DV.sl SK.ro 7 es)) id)), (.int .i64 (IntKind.i64.wrap (fI (rowsA (DV.sl SK.ro 7 es)) id + (1 : Int))))])
 (cond (decide ((0 : Int) ≤ fI (rowsA (DV.sl SK.ro 7 es)) id))
 (lookK (es[(fI (rowsA (DV.sl SK.ro 7 es)) id).toNat]?)
 fun e5 =>
 (cond (okRow [DV.int .i64 0, DV.int .i64 0, DV.int .i64 0, DV.int .i64 0, DV.int .i64 0, DV.int .i64 0, DV.int .i64 0] e5)
 (cond (decide ((delB [] (fI (rowsA (DV.sl SK.ro 7 es)) id).toNat).length = (delB [] (fI (rowsA (DV.sl SK.ro 7 es)) id).toNat).length))
 (need (LoopOk (LB tab spN7 lq L (n + (8 : Nat)) h280 c28l0) (St.of [(6, (.aref 100013 7 0 ((delB [] (fI (rowsA (DV.sl SK.ro 7 es)) id).toNat).length))), (7, (.ptr 7 7 0 0)), (9, (.d (.int .i64 ((0 : Int)))))] [(13, .none), (100013, (.some (.dat 38 7 (delB [] (fI (rowsA (DV.sl SK.ro 7 es)) id).toNat)))), (7, (.some (.dat 38 7 [[(.int .i64 ((cellA e5 0).toI)), (.int .i64 ((cellA e5 1).toI)), (.int .i64 ((cellA e5 2).toI)), (.int .i64 ((cellA e5 3).toI)), (.int .i64 ((cellA e5 4).toI)), (.int .i64 ((cellA e5 5).toI)), (.int .i64 ((cellA e5 6).toI))]])))]) ((.ex 0), (St.of [(6, (.aref 100013 7 0 ((delB [] (fI (rowsA (DV.sl SK.ro 7 es)) id).toNat).length))), (7, (.ptr 7 7 0 0)), (9, (.d (.int .i64 ((↑(frP (delB [] (fI (rowsA (DV.sl SK.ro 7 es)) id).toNat) [DV.int .i64 (cellA e5 0).toI, DV.int .i64 (cellA e5 1).toI, DV.int .i64 (cellA e5 2).toI, DV.int .i64 (cellA e5 3).toI, DV.int .i64 (cellA e5 4).toI, DV.int .i64 (cellA e5 5).toI, DV.int .i64 (cellA e5 6).toI]) : Int)))))] [(13, .none), (100013, (.some (.dat 38 7 (delB [] (fI (rowsA (DV.sl SK.ro 7 es)) id).toNat)))), (7, (.some (.dat 38 7 [[(.int .i64 ((cellA e5 0).toI)), (.int .i64 ((cellA e5 1).toI)), (.int .i64 ((cellA e5 2).toI)), (.int .i64 ((cellA e5 3).toI)), (.int .i64 ((cellA e5 4).toI)), (.int .i64 ((cellA e5 5).toI)), (.int .i64 ((cellA e5 6).toI))]])))])))
 (cond (decide ((7 : Nat) = (7 : Nat) ∧ (0 : Nat) = (0 : Nat) ∧ (delB [] (fI (rowsA (DV.sl SK.ro 7 es)) id).toNat).length = (delB [] (fI (rowsA (DV.sl SK.ro 7 es)) id).toNat).length))
 (need (FSpec.D (insP) [(.mv 38 7 (delB [] (fI (rowsA (DV.sl SK.ro 7 es)) id).toNat)), (.int .i64 ((↑(frP (delB [] (fI (rowsA (DV.sl SK.ro 7 es)) id).toNat) [DV.int .i64 (cellA e5 0).toI, DV.int .i64 (cellA e5 1).toI, DV.int .i64 (cellA e5 2).toI, DV.int .i64 (cellA e5 3).toI, DV.int .i64 (cellA e5 4).toI, DV.int .i64 (cellA e5 5).toI, DV.int .i64 (cellA e5 6).toI]) : Int))), (.sl (SK.tight) 7 [[(.int .i64 ((cellA e5 0).toI)), (.int .i64 ((cellA e5 1).toI)), (.int .i64 ((cellA e5 2).toI)), (.int .i64 ((cellA e5 3).toI)), (.int .i64 ((cellA e5 4).toI)), (.int .i64 ((cellA e5 5).toI)), (.int .i64 ((cellA e5 6).toI))]])])
 (cond (decide ((List.take (↑(frP (delB [] (fI (rowsA (DV.sl SK.ro 7 es)) id).toNat) [DV.int .i64 (cellA e5 0).toI, DV.int .i64 (cellA e5 1).toI, DV.int .i64 (cellA e5 2).toI, DV.int .i64 (cellA e5 3).toI, DV.int .i64 (cellA e5 4).toI, DV.int .i64 (cellA e5 5).toI, DV.int .i64 (cellA e5 6).toI]) : Int).toNat (delB [] (fI (rowsA (DV.sl SK.ro 7 es)) id).toNat) ++ (rowsA (DV.sl SK.tight 7 [[DV.int .i64 (cellA e5 0).toI, DV.int .i64 (cellA e5 1).toI, DV.int .i64 (cellA e5 2).toI, DV.int .i64 (cellA e5 3).toI, DV.int .i64 (cellA e5 4).toI, DV.int .i64 (cellA e5 5).toI, DV.int .i64 (cellA e5 6).toI]]) ++ List.drop (↑(frP (delB [] (fI (rowsA (DV.sl SK.ro 7 es)) id).toNat) [DV.int .i64 (cellA e5 0).toI, DV.int .i64 (cellA e5 1).toI, DV.int .i64 (cellA e5 2).toI, DV.int .i64 (cellA e5 3).toI, DV.int .i64 (cellA e5 4).toI, DV.int .i64 (cellA e5 5).toI, DV.int .i64 (cellA e5 6).toI]) : Int).toNat (delB [] (fI (rowsA (DV.sl SK.ro 7 es)) id).toNat))).length = (List.take (↑(frP (delB [] (fI (rowsA (DV.sl SK.ro 7 es)) id).toNat) [DV.int .i64 (cellA e5 0).toI, DV.int .i64 (cellA e5 1).toI, DV.int .i64 (cellA e5 2).toI, DV.int .i64 (cellA e5 3).toI, DV.int .i64 (cellA e5 4).toI, DV.int .i64 (cellA e5 5).toI, DV.int .i64 (cellA e5 6).toI]) : Int).toNat (delB [] (fI (rowsA (DV.sl SK.ro 7 es)) id).toNat) ++ (rowsA (DV.sl SK.tight 7 [[DV.int .i64 (cellA e5 0).toI, DV.int .i64 (cellA e5 1).toI, DV.int .i64 (cellA e5 2).toI, DV.int .i64 (cellA e5 3).toI, DV.int .i64 (cellA e5 4).toI, DV.int .i64 (cellA e5 5).toI, DV.int .i64 (cellA e5 6).toI]]) ++ List.drop (↑(frP (delB [] (fI (rowsA (DV.sl SK.ro 7 es)) id).toNat) [DV.int .i64 (cellA e5 0).toI, DV.int .i64 (cellA e5 1).toI, DV.int .i64 (cellA e5 2).toI, DV.int .i64 (cellA e5 3).toI, DV.int .i64 (cellA e5 4).toI, DV.int .i64 (cellA e5 5).toI, DV.int .i64 (cellA e5 6).toI]) : Int).toNat (delB [] (fI (rowsA (DV.sl SK.ro 7 es)) id).toNat))).length))
 (some (.tuple [(.sl (SK.own (38 : TypeId)) 7 (List.take (↑(frP (delB [] (fI (rowsA (DV.sl SK.ro 7 es)) id).toNat) [DV.int .i64 (cellA e5 0).toI, DV.int .i64 (cellA e5 1).toI, DV.int .i64 (cellA e5 2).toI, DV.int .i64 (cellA e5 3).toI, DV.int .i64 (cellA e5 4).toI, DV.int .i64 (cellA e5 5).toI, DV.int .i64 (cellA e5 6).toI]) : Int).toNat (delB [] (fI (rowsA (DV.sl SK.ro 7 es)) id).toNat) ++ (rowsA (DV.sl SK.tight 7 [[DV.int .i64 (cellA e5 0).toI, DV.int .i64 (cellA e5 1).toI, DV.int .i64 (cellA e5 2).toI, DV.int .i64 (cellA e5 3).toI, DV.int .i64 (cellA e5 4).toI, DV.int .i64 (cellA e5 5).toI, DV.int .i64 (cellA e5 6).toI]]) ++ List.drop (↑(frP (delB [] (fI (rowsA (DV.sl SK.ro 7 es)) id).toNat) [DV.int .i64 (cellA e5 0).toI, DV.int .i64 (cellA e5 1).toI, DV.int .i64 (cellA e5 2).toI, DV.int .i64 (cellA e5 3).toI, DV.int .i64 (cellA e5 4).toI, DV.int .i64 (cellA e5 5).toI, DV.int .i64 (cellA e5 6).toI]) : Int).toNat (delB [] (fI (rowsA (DV.sl SK.ro 7 es)) id).toNat)))), (.int .i64 ((0 : Int)))]))
 (cond (decide ((0 : Nat) + (List.take (↑(frP (delB [] (fI (rowsA (DV.sl SK.ro 7 es)) id).toNat) [DV.int .i64 (cellA e5 0).toI, DV.int .i64 (cellA e5 1).toI, DV.int .i64 (cellA e5 2).toI, DV.int .i64 (cellA e5 3).toI, DV.int .i64 (cellA e5 4).toI, DV.int .i64 (cellA e5 5).toI, DV.int .i64 (cellA e5 6).toI]) : Int).toNat (delB [] (fI (rowsA (DV.sl SK.ro 7 es)) id).toNat) ++ (rowsA (DV.sl SK.tight 7 [[DV.int .i64 (cellA e5 0).toI, DV.int .i64 (cellA e5 1).toI, DV.int .i64 (cellA e5 2).toI, DV.int .i64 (cellA e5 3).toI, DV.int .i64 (cellA e5 4).toI, DV.int .i64 (cellA e5 5).toI, DV.int .i64 (cellA e5 6).toI]]) ++ List.drop (↑(frP (delB [] (fI (rowsA (DV.sl SK.ro 7 es)) id).toNat) [DV.int .i64 (cellA e5 0).toI, DV.int .i64 (cellA e5 1).toI, DV.int .i64 (cellA e5 2).toI, DV.int .i64 (cellA e5 3).toI, DV.int .i64 (cellA e5 4).toI, DV.int .i64 (cellA e5 5).toI, DV.int .i64 (cellA e5 6).toI]) : Int).toNat (delB [] (fI (rowsA (DV.sl SK.ro 7 es)) id).toNat))).length ≤ (List.take (↑(frP (delB [] (fI (rowsA (DV.sl SK.ro 7 es)) id).toNat) [DV.int .i64 (cellA e5 0).toI, DV.int .i64 (cellA e5 1).toI, DV.int .i64 (cellA e5 2).toI, DV.int .i64 (cellA e5 3).toI, DV.int .i64 (cellA e5 4).toI, DV.int .i64 (cellA e5 5).toI, DV.int .i64 (cellA e5 6).toI]) : Int).toNat (delB [] (fI (rowsA (DV.sl SK.ro 7 es)) id).toNat) ++ (rowsA (DV.sl SK.tight 7 [[DV.int .i64 (cellA e5 0).toI, DV.int .i64 (cellA e5 1).toI, DV.int .i64 (cellA e5 2).toI, DV.int .i64 (cellA e5 3).toI, DV.int .i64 (cellA e5 4).toI, DV.int .i64 (cellA e5 5).toI, DV.int .i64 (cellA e5 6).toI]]) ++ List.drop (↑(frP (delB [] (fI (rowsA (DV.sl SK.ro 7 es)) id).toNat) [DV.int .i64 (cellA e5 0).toI, DV.int .i64 (cellA e5 1).toI, DV.int .i64 (cellA e5 2).toI, DV.int .i64 (cellA e5 3).toI, DV.int .i64 (cellA e5 4).toI, DV.int .i64 (cellA e5 5).toI, DV.int .i64 (cellA e5 6).toI]) : Int).toNat (delB [] (fI (rowsA (DV.sl SK.ro 7 es)) id).toNat))).length))
 (some (.tuple [(.sl (SK.ro) 7 (List.take (List.take (↑(frP (delB [] (fI (rowsA (DV.sl SK.ro 7 es)) id).toNat) [DV.int .i64 (cellA e5 0).toI, DV.int .i64 (cellA e5 1).toI, DV.int .i64 (cellA e5 2).toI, DV.int .i64 (cellA e5 3).toI, DV.int .i64 (cellA e5 4).toI, DV.int .i64 (cellA e5 5).toI, DV.int .i64 (cellA e5 6).toI]) : Int).toNat (delB [] (fI (rowsA (DV.sl SK.ro 7 es)) id).toNat) ++ (rowsA (DV.sl SK.tight 7 [[DV.int .i64 (cellA e5 0).toI, DV.int .i64 (cellA e5 1).toI, DV.int .i64 (cellA e5 2).toI, DV.int .i64 (cellA e5 3).toI, DV.int .i64 (cellA e5 4).toI, DV.int .i64 (cellA e5 5).toI, DV.int .i64 (cellA e5 6).toI]]) ++ List.drop (↑(frP (delB [] (fI (rowsA (DV.sl SK.ro 7 es)) id).toNat) [DV.int .i64 (cellA e5 0).toI, DV.int .i64 (cellA e5 1).toI, DV.int .i64 (cellA e5 2).toI, DV.int .i64 (cellA e5 3).toI, DV.int .i64 (cellA e5 4).toI, DV.int .i64 (cellA e5 5).toI, DV.int .i64 (cellA e5 6).toI]) : Int).toNat (delB [] (fI (rowsA (DV.sl SK.ro 7 es)) id).toNat))).length (List.take (↑(frP (delB [] (fI (rowsA (DV.sl SK.ro 7 es)) id).toNat) [DV.int .i64 (cellA e5 0).toI, DV.int .i64 (cellA e5 1).toI, DV.int .i64 (cellA e5 2).toI, DV.int .i64 (cellA e5 3).toI, DV.int .i64 (cellA e5 4).toI, DV.int .i64 (cellA e5 5).toI, DV.int .i64 (cellA e5 6).toI]) : Int).toNat (delB [] (fI (rowsA (DV.sl SK.ro 7 es)) id).toNat) ++ (rowsA (DV.sl SK.tight 7 [[DV.int .i64 (cellA e5 0).toI, DV.int .i64 (cellA e5 1).toI, DV.int .i64 (cellA e5 2).toI, DV.int .i64 (cellA e5 3).toI, DV.int .i64 (cellA e5 4).toI, DV.int .i64 (cellA e5 5).toI, DV.int .i64 (cellA e5 6).toI]]) ++ List.drop (↑(frP (delB [] (fI (rowsA (DV.sl SK.ro 7 es)) id).toNat) [DV.int .i64 (cellA e5 0).toI, DV.int .i64 (cellA e5 1).toI, DV.int .i64 (cellA e5 2).toI, DV.int .i64 (cellA e5 3).toI, DV.int .i64 (cellA e5 4).toI, DV.int .i64 (cellA e5 5).toI, DV.int .i64 (cellA e5 6).toI]) : Int).toNat (delB [] (fI (rowsA (DV.sl SK.ro 7 es)) id).toNat))))), (.int .i64 ((0 : Int)))]))
 none)))
 none))
 (cond (decide ((0 : Nat) + (delB [] (fI (rowsA (DV.sl SK.ro 7 es)) id).toNat).length ≤ (delB [] (fI (rowsA (DV.sl SK.ro 7 es)) id).toNat).length))
 (need (LoopOk (LB tab spN7 lq L (n + (8 : Nat)) h280 c28l0) (St.of [(6, (.d (.sl (SK.ro) 7 (List.take (delB [] (fI (rowsA (DV.sl SK.ro 7 es)) id).toNat).length (delB [] (fI (rowsA (DV.sl SK.ro 7 es)) id).toNat))))), (7, (.ptr 7 7 0 0)), (9, (.d (.int .i64 ((0 : Int)))))] [(13, .none), (100013, .none), (7, (.some (.dat 38 7 [[(.int .i64 ((cellA e5 0).toI)), (.int .i64 ((cellA e5 1).toI)), (.int .i64 ((cellA e5 2).toI)), (.int .i64 ((cellA e5 3).toI)), (.int .i64 ((cellA e5 4).toI)), (.int .i64 ((cellA e5 5).toI)), (.int .i64 ((cellA e5 6).toI))]])))]) ((.ex 0), (St.of [(6, (.d (.sl (SK.ro) 7 (List.take (delB [] (fI (rowsA (DV.sl SK.ro 7 es)) id).toNat).length (delB [] (fI (rowsA (DV.sl SK.ro 7 es)) id).toNat))))), (7, (.ptr 7 7 0 0)), (9, (.d (.int .i64 ((↑(frP (rowsA (roTop (DV.sl SK.ro 7 (List.take (delB [] (fI (rowsA (DV.sl SK.ro 7 es)) id).toNat).length (delB [] (fI (rowsA (DV.sl SK.ro 7 es)) id).toNat))))) [DV.int .i64 (cellA e5 0).toI, DV.int .i64 (cellA e5 1).toI, DV.int .i64 (cellA e5 2).toI, DV.int .i64 (cellA e5 3).toI, DV.int .i64 (cellA e5 4).toI, DV.int .i64 (cellA e5 5).toI, DV.int .i64 (cellA e5 6).toI]) : Int)))))] [(13, .none), (100013, .none), (7, (.some (.dat 38 7 [[(.int .i64 ((cellA e5 0).toI)), (.int .i64 ((cellA e5 1).toI)), (.int .i64 ((cellA e5 2).toI)), (.int .i64 ((cellA e5 3).toI)), (.int .i64 ((cellA e5 4).toI)), (.int .i64 ((cellA e5 5).toI)), (.int .i64 ((cellA e5 6).toI))]])))])))
 (need (FSpec.D (insP) [(.sl (SK.ro) 7 (List.take (delB [] (fI (rowsA (DV.sl SK.ro 7 es)) id).toNat).length (delB [] (fI (rowsA (DV.sl SK.ro 7 es)) id).toNat))), (.int .i64 ((↑(frP (rowsA (roTop (DV.sl SK.ro 7 (List.take (delB [] (fI (rowsA (DV.sl SK.ro 7 es)) id).toNat).length (delB [] (fI (rowsA (DV.sl SK.ro 7 es)) id).toNat))))) [DV.int .i64 (cellA e5 0).toI, DV.int .i64 (cellA e5 1).toI, DV.int .i64 (cellA e5 2).toI, DV.int .i64 (cellA e5 3).toI, DV.int .i64 (cellA e5 4).toI, DV.int .i64 (cellA e5 5).toI, DV.int .i64 (cellA e5 6).toI]) : Int))), (.sl (SK.tight) 7 [[(.int .i64 ((cellA e5 0).toI)), (.int .i64 ((cellA e5 1).toI)), (.int .i64 ((cellA e5 2).toI)), (.int .i64 ((cellA e5 3).toI)), (.int .i64 ((cellA e5 4).toI)), (.int .i64 ((cellA e5 5).toI)), (.int .i64 ((cellA e5 6).toI))]])])
 (some (.tuple [(.sl (SK.own (38 : TypeId)) 7 [[(.int .i64 ((cellA e5 0).toI)), (.int .i64 ((cellA e5 1).toI)), (.int .i64 ((cellA e5 2).toI)), (.int .i64 ((cellA e5 3).toI)), (.int .i64 ((cellA e5 4).toI)), (.int .i64 ((cellA e5 5).toI)), (.int .i64 ((cellA e5 6).toI))]]), (.int .i64 ((0 : Int)))]))))
 none))
 none))
 none))
 (cond (es.all fun (e : List DV) => e.length == (7 : Nat) && e.all DV.one)
 (cond (decide ((38 : Nat) = (38 : Nat) ∧ (7 : Nat) = (7 : Nat) ∧ (7 : Nat) = (7 : Nat) ∧ (0 : Nat) = (0 : Nat) ∧ (0 : Nat) = (0 : Nat) ∧ es.length * (56 : Nat) ≤ room ∧ es.length ≤ room))
 (cond (decide (es.length = es.length))
 (cond (decide ((7 : Nat) = (7 : Nat) ∧ (0 : Nat) = (0 : Nat) ∧ es.length = es.length))
 (need (FSpec.D (delS) [(.mv 38 7 es), (.int .i64 (fI (rowsA (DV.sl SK.ro 7 es)) id)), (.int .i64 (IntKind.i64.wrap (fI (rowsA (DV.sl SK.ro 7 es)) id + (1 : Int))))])
 (cond (decide ((0 : Int) ≤ fI (rowsA (DV.sl SK.ro 7 es)) id))
 (lookK (es[(fI (rowsA (DV.sl SK.ro 7 es)) id).toNat]?)
 fun e9 =>
 (cond (okRow [DV.int .i64 0, DV.int .i64 0, DV.int .i64 0, DV.int .i64 0, DV.int .i64 0, DV.int .i64 0, DV.int .i64 0] e9)
 (cond (decide ((delB es (fI (rowsA (DV.sl SK.ro 7 es)) id).toNat).length = (delB es (fI (rowsA (DV.sl SK.ro 7 es)) id).toNat).length))
 (need (LoopOk (LB tab spN7 lq L (n + (8 : Nat)) h280 c28l0) (St.of [(6, (.aref 100013 7 0 ((delB es (fI (rowsA (DV.sl SK.ro 7 es)) id).toNat).length))), (7, (.ptr 7 7 0 0)), (9, (.d (.int .i64 ((0 : Int)))))] [(13, .none), (100013, (.some (.dat 38 7 (delB es (fI (rowsA (DV.sl SK.ro 7 es)) id).toNat)))), (7, (.some (.dat 38 7 [[(.int .i64 ((cellA e9 0).toI)), (.int .i64 ((cellA e9 1).toI)), (.int .i64 ((cellA e9 2).toI)), (.int .i64 ((cellA e9 3).toI)), (.int .i64 ((cellA e9 4).toI)), (.int .i64 ((cellA e9 5).toI)), (.int .i64 ((cellA e9 6).toI))]])))]) ((.ex 0), (St.of [(6, (.aref 100013 7 0 ((delB es (fI (rowsA (DV.sl SK.ro 7 es)) id).toNat).length))), (7, (.ptr 7 7 0 0)), (9, (.d (.int .i64 ((↑(frP (delB es (fI (rowsA (DV.sl SK.ro 7 es)) id).toNat) [DV.int .i64 (cellA e9 0).toI, DV.int .i64 (cellA e9 1).toI, DV.int .i64 (cellA e9 2).toI, DV.int .i64 (cellA e9 3).toI, DV.int .i64 (cellA e9 4).toI, DV.int .i64 (cellA e9 5).toI, DV.int .i64 (cellA e9 6).toI]) : Int)))))] [(13, .none), (100013, (.some (.dat 38 7 (delB es (fI (rowsA (DV.sl SK.ro 7 es)) id).toNat)))), (7, (.some (.dat 38 7 [[(.int .i64 ((cellA e9 0).toI)), (.int .i64 ((cellA e9 1).toI)), (.int .i64 ((cellA e9 2).toI)), (.int .i64 ((cellA e9 3).toI)), (.int .i64 ((cellA e9 4).toI)), (.int .i64 ((cellA e9 5).toI)), (.int .i64 ((cellA e9 6).toI))]])))])))
 (cond (decide ((7 : Nat) = (7 : Nat) ∧ (0 : Nat) = (0 : Nat) ∧ (delB es (fI (rowsA (DV.sl SK.ro 7 es)) id).toNat).length = (delB es (fI (rowsA (DV.sl SK.ro 7 es)) id).toNat).length))
 (need (FSpec.D (insP) [(.mv 38 7 (delB es (fI (rowsA (DV.sl SK.ro 7 es)) id).toNat)), (.int .i64 ((↑(frP (delB es (fI (rowsA (DV.sl SK.ro 7 es)) id).toNat) [DV.int .i64 (cellA e9 0).toI, DV.int .i64 (cellA e9 1).toI, DV.int .i64 (cellA e9 2).toI, DV.int .i64 (cellA e9 3).toI, DV.int .i64 (cellA e9 4).toI, DV.int .i64 (cellA e9 5).toI, DV.int .i64 (cellA e9 6).toI]) : Int))), (.sl (SK.tight) 7 [[(.int .i64 ((cellA e9 0).toI)), (.int .i64 ((cellA e9 1).toI)), (.int .i64 ((cellA e9 2).toI)), (.int .i64 ((cellA e9 3).toI)), (.int .i64 ((cellA e9 4).toI)), (.int .i64 ((cellA e9 5).toI)), (.int .i64 ((cellA e9 6).toI))]])])
 (cond (decide ((List.take (↑(frP (delB es (fI (rowsA (DV.sl SK.ro 7 es)) id).toNat) [DV.int .i64 (cellA e9 0).toI, DV.int .i64 (cellA e9 1).toI, DV.int .i64 (cellA e9 2).toI, DV.int .i64 (cellA e9 3).toI, DV.int .i64 (cellA e9 4).toI, DV.int .i64 (cellA e9 5).toI, DV.int .i64 (cellA e9 6).toI]) : Int).toNat (delB es (fI (rowsA (DV.sl SK.ro 7 es)) id).toNat) ++ (rowsA (DV.sl SK.tight 7 [[DV.int .i64 (cellA e9 0).toI, DV.int .i64 (cellA e9 1).toI, DV.int .i64 (cellA e9 2).toI, DV.int .i64 (cellA e9 3).toI, DV.int .i64 (cellA e9 4).toI, DV.int .i64 (cellA e9 5).toI, DV.int .i64 (cellA e9 6).toI]]) ++ List.drop (↑(frP (delB es (fI (rowsA (DV.sl SK.ro 7 es)) id).toNat) [DV.int .i64 (cellA e9 0).toI, DV.int .i64 (cellA e9 1).toI, DV.int .i64 (cellA e9 2).toI, DV.int .i64 (cellA e9 3).toI, DV.int .i64 (cellA e9 4).toI, DV.int .i64 (cellA e9 5).toI, DV.int .i64 (cellA e9 6).toI]) : Int).toNat (delB es (fI (rowsA (DV.sl SK.ro 7 es)) id).toNat))).length = (List.take (↑(frP (delB es (fI (rowsA (DV.sl SK.ro 7 es)) id).toNat) [DV.int .i64 (cellA e9 0).toI, DV.int .i64 (cellA e9 1).toI, DV.int .i64 (cellA e9 2).toI, DV.int .i64 (cellA e9 3).toI, DV.int .i64 (cellA e9 4).toI, DV.int .i64 (cellA e9 5).toI, DV.int .i64 (cellA e9 6).toI]) : Int).toNat (delB es (fI (rowsA (DV.sl SK.ro 7 es)) id).toNat) ++ (rowsA (DV.sl SK.tight 7 [[DV.int .i64 (cellA e9 0).toI, DV.int .i64 (cellA e9 1).toI, DV.int .i64 (cellA e9 2).toI, DV.int .i64 (cellA e9 3).toI, DV.int .i64 (cellA e9 4).toI, DV.int .i64 (cellA e9 5).toI, DV.int .i64 (cellA e9 6).toI]]) ++ List.drop (↑(frP (delB es (fI (rowsA (DV.sl SK.ro 7 es)) id).toNat) [DV.int .i64 (cellA e9 0).toI, DV.int .i64 (cellA e9 1).toI, DV.int .i64 (cellA e9 2).toI, DV.int .i64 (cellA e9 3).toI, DV.int .i64 (cellA e9 4).toI, DV.int .i64 (cellA e9 5).toI, DV.int .i64 (cellA e9 6).toI]) : Int).toNat (delB es (fI (rowsA (DV.sl SK.ro 7 es)) id).toNat))).length))
 (some (.tuple [(.sl (SK.own (38 : TypeId)) 7 (List.take (↑(frP (delB es (fI (rowsA (DV.sl SK.ro 7 es)) id).toNat) [DV.int .i64 (cellA e9 0).toI, DV.int .i64 (cellA e9 1).toI, DV.int .i64 (cellA e9 2).toI, DV.int .i64 (cellA e9 3).toI, DV.int .i64 (cellA e9 4).toI, DV.int .i64 (cellA e9 5).toI, DV.int .i64 (cellA e9 6).toI]) : Int).toNat (delB es (fI (rowsA (DV.sl SK.ro 7 es)) id).toNat) ++ (rowsA (DV.sl SK.tight 7 [[DV.int .i64 (cellA e9 0).toI, DV.int .i64 (cellA e9 1).toI, DV.int .i64 (cellA e9 2).toI, DV.int .i64 (cellA e9 3).toI, DV.int .i64 (cellA e9 4).toI, DV.int .i64 (cellA e9 5).toI, DV.int .i64 (cellA e9 6).toI]]) ++ List.drop (↑(frP (delB es (fI (rowsA (DV.sl SK.ro 7 es)) id).toNat) [DV.int .i64 (cellA e9 0).toI, DV.int .i64 (cellA e9 1).toI, DV.int .i64 (cellA e9 2).toI, DV.int .i64 (cellA e9 3).toI, DV.int .i64 (cellA e9 4).toI, DV.int .i64 (cellA e9 5).toI, DV.int .i64 (cellA e9 6).toI]) : Int).toNat (delB es (fI (rowsA (DV.sl SK.ro 7 es)) id).toNat)))), (.int .i64 ((0 : Int)))]))
 (cond (decide ((0 : Nat) + (List.take (↑(frP (delB es (fI (rowsA (DV.sl SK.ro 7 es)) id).toNat) [DV.int .i64 (cellA e9 0).toI, DV.int .i64 (cellA e9 1).toI, DV.int .i64 (cellA e9 2).toI, DV.int .i64 (cellA e9 3).toI, DV.int .i64 (cellA e9 4).toI, DV.int .i64 (cellA e9 5).toI, DV.int .i64 (cellA e9 6).toI]) : Int).toNat (delB es (fI (rowsA (DV.sl SK.ro 7 es)) id).toNat) ++ (rowsA (DV.sl SK.tight 7 [[DV.int .i64 (cellA e9 0).toI, DV.int .i64 (cellA e9 1).toI, DV.int .i64 (cellA e9 2).toI, DV.int .i64 (cellA e9 3).toI, DV.int .i64 (cellA e9 4).toI, DV.int .i64 (cellA e9 5).toI, DV.int .i64 (cellA e9 6).toI]]) ++ List.drop (↑(frP (delB es (fI (rowsA (DV.sl SK.ro 7 es)) id).toNat) [DV.int .i64 (cellA e9 0).toI, DV.int .i64 (cellA e9 1).toI, DV.int .i64 (cellA e9 2).toI, DV.int .i64 (cellA e9 3).toI, DV.int .i64 (cellA e9 4).toI, DV.int .i64 (cellA e9 5).toI, DV.int .i64 (cellA e9 6).toI]) : Int).toNat (delB es (fI (rowsA (DV.sl SK.ro 7 es)) id).toNat))).length ≤ (List.take (↑(frP (delB es (fI (rowsA (DV.sl SK.ro 7 es)) id).toNat) [DV.int .i64 (cellA e9 0).toI, DV.int .i64 (cellA e9 1).toI, DV.int .i64 (cellA e9 2).toI, DV.int .i64 (cellA e9 3).toI, DV.int .i64 (cellA e9 4).toI, DV.int .i64 (cellA e9 5).toI, DV.int .i64 (cellA e9 6).toI]) : Int).toNat (delB es (fI (rowsA (DV.sl SK.ro 7 es)) id).toNat) ++ (rowsA (DV.sl SK.tight 7 [[DV.int .i64 (cellA e9 0).toI, DV.int .i64 (cellA e9 1).toI, DV.int .i64 (cellA e9 2).toI, DV.int .i64 (cellA e9 3).toI, DV.int .i64 (cellA e9 4).toI, DV.int .i64 (cellA e9 5).toI, DV.int .i64 (cellA e9 6).toI]]) ++ List.drop (↑(frP (delB es (fI (rowsA (DV.sl SK.ro 7 es)) id).toNat) [DV.int .i64 (cellA e9 0).toI, DV.int .i64 (cellA e9 1).toI, DV.int .i64 (cellA e9 2).toI, DV.int .i64 (cellA e9 3).toI, DV.int .i64 (cellA e9 4).toI, DV.int .i64 (cellA e9 5).toI, DV.int .i64 (cellA e9 6).toI]) : Int).toNat (delB es (fI (rowsA (DV.sl SK.ro 7 es)) id).toNat))).length))
 (some (.tuple [(.sl (SK.ro) 7 (List.take (List.take (↑(frP (delB es (fI (rowsA (DV.sl SK.ro 7 es)) id).toNat) [DV.int .i64 (cellA e9 0).toI, DV.int .i64 (cellA e9 1).toI, DV.int .i64 (cellA e9 2).toI, DV.int .i64 (cellA e9 3).toI, DV.int .i64 (cellA e9 4).toI, DV.int .i64 (cellA e9 5).toI, DV.int .i64 (cellA e9 6).toI]) : Int).toNat (delB es (fI (rowsA (DV.sl SK.ro 7 es)) id).toNat) ++ (rowsA (DV.sl SK.tight 7 [[DV.int .i64 (cellA e9 0).toI, DV.int .i64 (cellA e9 1).toI, DV.int .i64 (cellA e9 2).toI, DV.int .i64 (cellA e9 3).toI, DV.int .i64 (cellA e9 4).toI, DV.int .i64 (cellA e9 5).toI, DV.int .i64 (cellA e9 6).toI]]) ++ List.drop (↑(frP (delB es (fI (rowsA (DV.sl SK.ro 7 es)) id).toNat) [DV.int .i64 (cellA e9 0).toI, DV.int .i64 (cellA e9 1).toI, DV.int .i64 (cellA e9 2).toI, DV.int .i64 (cellA e9 3).toI, DV.int .i64 (cellA e9 4).toI, DV.int .i64 (cellA e9 5).toI, DV.int .i64 (cellA e9 6).toI]) : Int).toNat (delB es (fI (rowsA (DV.sl SK.ro 7 es)) id).toNat))).length (List.take (↑(frP (delB es (fI (rowsA (DV.sl SK.ro 7 es)) id).toNat) [DV.int .i64 (cellA e9 0).toI, DV.int .i64 (cellA e9 1).toI, DV.int .i64 (cellA e9 2).toI, DV.int .i64 (cellA e9 3).toI, DV.int .i64 (cellA e9 4).toI, DV.int .i64 (cellA e9 5).toI, DV.int .i64 (cellA e9 6).toI]) : Int).toNat (delB es (fI (rowsA (DV.sl SK.ro 7 es)) id).toNat) ++ (rowsA (DV.sl SK.tight 7 [[DV.int .i64 (cellA e9 0).toI, DV.int .i64 (cellA e9 1).toI, DV.int .i64 (cellA e9 2).toI, DV.int .i64 (cellA e9 3).toI, DV.int .i64 (cellA e9 4).toI, DV.int .i64 (cellA e9 5).toI, DV.int .i64 (cellA e9 6).toI]]) ++ List.drop (↑(frP (delB es (fI (rowsA (DV.sl SK.ro 7 es)) id).toNat) [DV.int .i64 (cellA e9 0).toI, DV.int .i64 (cellA e9 1).toI, DV.int .i64 (cellA e9 2).toI, DV.int .i64 (cellA e9 3).toI, DV.int .i64 (cellA e9 4).toI, DV.int .i64 (cellA e9 5).toI, DV.int .i64 (cellA e9 6).toI]) : Int).toNat (delB es (fI (rowsA (DV.sl SK.ro 7 es)) id).toNat))))), (.int .i64 ((0 : Int)))]))
 none)))
 none))
 (cond (decide ((0 : Nat) + (delB es (fI (rowsA (DV.sl SK.ro 7 es)) id).toNat).length ≤ (delB es (fI (rowsA (DV.sl SK.ro 7 es)) id).toNat).length))
 (need (LoopOk (LB tab spN7 lq L (n + (8 : Nat)) h280 c28l0) (St.of [(6, (.d (.sl (SK.ro) 7 (List.take (delB es (fI (rowsA (DV.sl SK.ro 7 es)) id).toNat).length (delB es (fI (rowsA (DV.sl SK.ro 7 es)) id).toNat))))), (7, (.ptr 7 7 0 0)), (9, (.d (.int .i64 ((0 : Int)))))] [(13, .none), (100013, .none), (7, (.some (.dat 38 7 [[(.int .i64 ((cellA e9 0).toI)), (.int .i64 ((cellA e9 1).toI)), (.int .i64 ((cellA e9 2).toI)), (.int .i64 ((cellA e9 3).toI)), (.int .i64 ((cellA e9 4).toI)), (.int .i64 ((cellA e9 5).toI)), (.int .i64 ((cellA e9 6).toI))]])))]) ((.ex 0), (St.of [(6, (.d (.sl (SK.ro) 7 (List.take (delB es (fI (rowsA (DV.sl SK.ro 7 es)) id).toNat).length (delB es (fI (rowsA (DV.sl SK.ro 7 es)) id).toNat))))), (7, (.ptr 7 7 0 0)), (9, (.d (.int .i64 ((↑(frP (rowsA (roTop (DV.sl SK.ro 7 (List.take (delB es (fI (rowsA (DV.sl SK.ro 7 es)) id).toNat).length (delB es (fI (rowsA (DV.sl SK.ro 7 es)) id).toNat))))) [DV.int .i64 (cellA e9 0).toI, DV.int .i64 (cellA e9 1).toI, DV.int .i64 (cellA e9 2).toI, DV.int .i64 (cellA e9 3).toI, DV.int .i64 (cellA e9 4).toI, DV.int .i64 (cellA e9 5).toI, DV.int .i64 (cellA e9 6).toI]) : Int)))))] [(13, .none), (100013, .none), (7, (.some (.dat 38 7 [[(.int .i64 ((cellA e9 0).toI)), (.int .i64 ((cellA e9 1).toI)), (.int .i64 ((cellA e9 2).toI)), (.int .i64 ((cellA e9 3).toI)), (.int .i64 ((cellA e9 4).toI)), (.int .i64 ((cellA e9 5).toI)), (.int .i64 ((cellA e9 6).toI))]])))])))
 (need (FSpec.D (insP) [(.sl (SK.ro) 7 (List.take (delB es (fI (rowsA (DV.sl SK.ro 7 es)) id).toNat).length (delB es (fI (rowsA (DV.sl SK.ro 7 es)) id).toNat))), (.int .i64 ((↑(frP (rowsA (roTop (DV.sl SK.ro 7 (List.take (delB es (fI (rowsA (DV.sl SK.ro 7 es)) id).toNat).length (delB es (fI (rowsA (DV.sl SK.ro 7 es)) id).toNat))))) [DV.int .i64 (cellA e9 0).toI, DV.int .i64 (cellA e9 1).toI, DV.int .i64 (cellA e9 2).toI, DV.int .i64 (cellA e9 3).toI, DV.int .i64 (cellA e9 4).toI, DV.int .i64 (cellA e9 5).toI, DV.int .i64 (cellA e9 6).toI]) : Int))), (.sl (SK.tight) 7 [[(.int .i64 ((cellA e9 0).toI)), (.int .i64 ((cellA e9 1).toI)), (.int .i64 ((cellA e9 2).toI)), (.int .i64 ((cellA e9 3).toI)), (.int .i64 ((cellA e9 4).toI)), (.int .i64 ((cellA e9 5).toI)), (.int .i64 ((cellA e9 6).toI))]])])
 (some (.tuple [(.sl (SK.own (38 : TypeId)) 7 [[(.int .i64 ((cellA e9 0).toI)), (.int .i64 ((cellA e9 1).toI)), (.int .i64 ((cellA e9 2).toI)), (.int .i64 ((cellA e9 3).toI)), (.int .i64 ((cellA e9 4).toI)), (.int .i64 ((cellA e9 5).toI)), (.int .i64 ((cellA e9 6).toI))]]), (.int .i64 ((0 : Int)))]))))
 none))
 none))
 none))
 none)
 (cond (decide ((0 : Nat) + es.length ≤ es.length))
 (need (FSpec.D (delS) [(.sl (SK.ro) 7 (List.take es.length es)), (.int .i64 (fI (rowsA (DV.sl SK.ro 7 es)) id)), (.int .i64 (IntKind.i64.wrap (fI (rowsA (DV.sl SK.ro 7 es)) id + (1 : Int))))])
 none)
 none))
 none)
 none)))) from by kernel_rfl).trans (by first | rfl | (simp only [decide_true, decide_false, eq_self, and_true, true_and, and_self, cond_true, cond_false, Nat.le_refl, Int.le_refl, Option.getD_some, Option.getD_none, Int.toNat_natCast, List.take_length, List.drop_zero, Nat.zero_add, List.nil_append, List.all_nil, List.append_nil, Bool.true_and, Bool.and_true, rowsA_sla, rowsA_sl, rowsA_nil, minus_zero, nat_le_cast, nat_nonneg, Option.isSome_some, Option.isSome_none, Bool.false_eq_true, false_and, and_false, if_true, if_false, implies_true, Int.toNat_zero, Bool.not_false, Bool.not_true, bne_self_eq_false]; done) | (simp only [decide_true, decide_false, eq_self, and_true, true_and, and_self, cond_true, cond_false, Nat.le_refl, Int.le_refl, Option.getD_some, Option.getD_none, Int.toNat_natCast, List.take_length, List.drop_zero, Nat.zero_add, List.nil_append, List.all_nil, List.append_nil, Bool.true_and, Bool.and_true, rowsA_sla, rowsA_sl, rowsA_nil, minus_zero, nat_le_cast, nat_nonneg, Option.isSome_some, Option.isSome_none, Bool.false_eq_true, false_and, and_false, if_true, if_false, implies_true, Int.toNat_zero, Bool.not_false, Bool.not_true, bne_self_eq_false]; rfl))
end Go.Proofs.Ytngghbloijkfoaa
