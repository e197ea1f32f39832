/- What is known of the functions on rows of payments, by their runs: another class; the document's own. No condition. -/
import Derived.Test.YtngghbloijkfoaaRf
namespace Go.Proofs.Ytngghbloijkfoaa
open Go Go.Proofs Go.RowKit Vm
set_option linter.unusedVariables false
set_option linter.unusedSimpArgs false
def ints (e : List DV) : List Int := e.map DV.toI
def sameP (a b : List (List DV)) : Bool := decide (a.map ints = b.map ints)
def samP : FSpec where
  D ds := ∃ x y, ds = [x, y] ∧ I7 1000 x ∧ I7 1000 y
  val ds := match ds with | [x, y] => some (.bool (sameP (rowsA x) (rowsA y))) | _ => none
def setC (p : List DV) (c : Int) : List DV := [.int .i64 (cellA p 0).toI, .int .i64 (cellA p 1).toI, .int .i64 (cellA p 2).toI, .int .i64 (cellA p 3).toI, .int .i64 c, .int .i64 (cellA p 5).toI, .int .i64 (cellA p 6).toI]
def clsL (es : List (List DV)) (id c : Int) : List (List DV) := cond (decide (fI es id < 0)) es (putL (dropL es id) (setC (dropP es id) c))
def clsE (es : List (List DV)) (id c : Int) : Int := cond (decide (fI es id < 0)) 4 (putE (dropL es id) (setC (dropP es id) c))
def clsS : FSpec where
  D ds := ∃ x id c, ds = [x, .int .i64 id, .int .i64 c] ∧ I7 1000 x
  val ds := match ds with | [x, .int _ id, .int _ c] => some (.tuple [.sla false 7 (clsL (rowsA x) id c), .int .i64 (clsE (rowsA x) id c)]) | _ => none
noncomputable def spC7 : FuncId → Option FSpec := spAdd 22 putS (spAdd 23 drpS noSp)
def S270 (x y : DV) (i : Int) : St := St.of [(0, .d x), (1, .d y), (5, .d (.int .i64 i))] []
def l270 : LSpec := fun st => match st.env 0, st.env 1 with
  | .d x, .d y => .br (sameP (rowsA x) (rowsA y)) (.one (.ex 0) (St.of [] [])) (.one .ret (St.of [(4, .d (.bool false))] []))
  | _, _ => .no
def lg (k : Nat) : Option LSpec := if k = 270 then some l270 else none
theorem s270 (L n : Nat) (es es2 : List (List DV)) (i : Nat) (k : Kont) : LB tab noSp lg L (n+4) h270 c27l0 (S270 (.sla false 7 es) (.sla false 7 es2) i) k =
   (bif decide ((↑i : Int) < (↑es.length : Int)) then
 lookK es[i]? fun (e1 : List DV) =>
 bif
 okRow
 [DV.int .i64 0, DV.int .i64 0, DV.int .i64 0, DV.int .i64 0, DV.int .i64 0, DV.int .i64 0, DV.int .i64 0]
 e1 then
 lookK es2[i]? fun (e4 : List DV) =>
 bif
 okRow
 [DV.int .i64 0, DV.int .i64 0, DV.int .i64 0, DV.int .i64 0, DV.int .i64 0, DV.int .i64 0, DV.int .i64 0]
 e4 then
 bif
 !((cellA e1 0).toI == (cellA e4 0).toI &&
 ((cellA e1 1).toI == (cellA e4 1).toI &&
 ((cellA e1 2).toI == (cellA e4 2).toI &&
 ((cellA e1 3).toI == (cellA e4 3).toI &&
 ((cellA e1 4).toI == (cellA e4 4).toI &&
 ((cellA e1 5).toI == (cellA e4 5).toI && (cellA e1 6).toI == (cellA e4 6).toI)))))) then
 k Ex.ret (St.of [(4, AV.d (DV.bool false))] [])
 else
 k Ex.nrm
 (St.of
 [(0, AV.d (DV.sla false 7 es)), (1, AV.d (DV.sla false 7 es2)),
 ((5 : Nat), AV.d (DV.int .i64 (IntKind.i64.wrap ((↑i : Int) + (1 : Int)))))]
 [])
 else none
 else none
 else k (Ex.ex (0 : Nat)) (St.of [] [])) :=
  (show LB tab noSp lg L (n+4) h270 c27l0 (S270 (.sla false 7 es) (.sla false 7 es2) i) k =
 (cond (decide ((↑i : Int) < (↑es.length : Int)))
 (lookK (es[(↑i : Int).toNat]?)
 fun e1 =>
 (cond (okRow [DV.int .i64 0, DV.int .i64 0, DV.int .i64 0, DV.int .i64 0, DV.int .i64 0, DV.int .i64 0, DV.int .i64 0] e1)
 (lookK (es2[(↑i : Int).toNat]?)
 fun e4 =>
 (cond (okRow [DV.int .i64 0, DV.int .i64 0, DV.int .i64 0, DV.int .i64 0, DV.int .i64 0, DV.int .i64 0, DV.int .i64 0] e4)
 (cond (!((cellA e1 0).toI == (cellA e4 0).toI && ((cellA e1 1).toI == (cellA e4 1).toI && ((cellA e1 2).toI == (cellA e4 2).toI && ((cellA e1 3).toI == (cellA e4 3).toI && ((cellA e1 4).toI == (cellA e4 4).toI && ((cellA e1 5).toI == (cellA e4 5).toI && ((cellA e1 6).toI == (cellA e4 6).toI && true))))))))
 (k .ret (St.of [(4, (.d (.bool false)))] []))
 (k .nrm (St.of [(0, (.d (.sla false 7 es))), (1, (.d (.sla false 7 es2))), (5, (.d (.int .i64 (IntKind.i64.wrap ((↑i : Int) + (1 : Int))))))] [])))
 none))
 none))
 (k (.ex 0) (St.of [] []))) from by kernel_rfl).trans (by first | rfl | (simp only [decide_true, decide_false, eq_self, and_true, true_and, and_self, cond_true, cond_false, Nat.le_refl, Int.le_refl, Option.getD_some, Option.getD_none, Int.toNat_natCast, List.take_length, List.drop_zero, Nat.zero_add, List.nil_append, List.all_nil, List.append_nil, Bool.true_and, Bool.and_true, rowsA_sla, rowsA_sl, rowsA_nil, minus_zero, nat_le_cast, nat_nonneg, Option.isSome_some, Option.isSome_none, Bool.false_eq_true, false_and, and_false, if_true, if_false, implies_true, Int.toNat_zero, Bool.not_false, Bool.not_true, bne_self_eq_false]; done) | (simp only [decide_true, decide_false, eq_self, and_true, true_and, and_self, cond_true, cond_false, Nat.le_refl, Int.le_refl, Option.getD_some, Option.getD_none, Int.toNat_natCast, List.take_length, List.drop_zero, Nat.zero_add, List.nil_append, List.all_nil, List.append_nil, Bool.true_and, Bool.and_true, rowsA_sla, rowsA_sl, rowsA_nil, minus_zero, nat_le_cast, nat_nonneg, Option.isSome_some, Option.isSome_none, Bool.false_eq_true, false_and, and_false, if_true, if_false, implies_true, Int.toNat_zero, Bool.not_false, Bool.not_true, bne_self_eq_false]; rfl))
theorem t27 (L n : Nat) (es es2 : List (List DV)) : FK tab noSp lg L (n+8) 27 [.sla false 7 es, .sla false 7 es2] =
   (bif (↑es.length : Int) != (↑es2.length : Int) then some (DV.bool false)
 else
 bif sameP es es2 then
 need
 (LoopOk (LB tab noSp lg L (n + (8 : Nat)) h270 c27l0)
 (St.of
 [(0, AV.d (DV.sla false 7 es)), (1, AV.d (DV.sla false 7 es2)), (5, AV.d (DV.int .i64 0))]
 [])
 (Ex.ex (0 : Nat), St.of [] []))
 (some (DV.bool true))
 else
 need
 (LoopOk (LB tab noSp lg L (n + (8 : Nat)) h270 c27l0)
 (St.of
 [(0, AV.d (DV.sla false 7 es)), (1, AV.d (DV.sla false 7 es2)), (5, AV.d (DV.int .i64 0))]
 [])
 (Ex.ret, St.of [(4, AV.d (DV.bool false))] []))
 (some (DV.bool false))) :=
  (show FK tab noSp lg L (n+8) 27 [.sla false 7 es, .sla false 7 es2] =
 (cond ((↑es.length : Int) != (↑es2.length : Int))
 (some (.bool false))
 (cond (sameP (rowsA (DV.sla false 7 es)) (rowsA (DV.sla false 7 es2)))
 (need (LoopOk (LB tab noSp lg L (n + (8 : Nat)) h270 c27l0) (St.of [(0, (.d (.sla false 7 es))), (1, (.d (.sla false 7 es2))), (5, (.d (.int .i64 ((0 : Int)))))] []) ((.ex 0), (St.of [] [])))
 (some (.bool true)))
 (need (LoopOk (LB tab noSp lg L (n + (8 : Nat)) h270 c27l0) (St.of [(0, (.d (.sla false 7 es))), (1, (.d (.sla false 7 es2))), (5, (.d (.int .i64 ((0 : Int)))))] []) (.ret, (St.of [(4, (.d (.bool false)))] [])))
 (some (.bool false))))) from by kernel_rfl).trans (by first | rfl | (simp only [decide_true, decide_false, eq_self, and_true, true_and, and_self, cond_true, cond_false, Nat.le_refl, Int.le_refl, Option.getD_some, Option.getD_none, Int.toNat_natCast, List.take_length, List.drop_zero, Nat.zero_add, List.nil_append, List.all_nil, List.append_nil, Bool.true_and, Bool.and_true, rowsA_sla, rowsA_sl, rowsA_nil, minus_zero, nat_le_cast, nat_nonneg, Option.isSome_some, Option.isSome_none, Bool.false_eq_true, false_and, and_false, if_true, if_false, implies_true, Int.toNat_zero, Bool.not_false, Bool.not_true, bne_self_eq_false]; done) | (simp only [decide_true, decide_false, eq_self, and_true, true_and, and_self, cond_true, cond_false, Nat.le_refl, Int.le_refl, Option.getD_some, Option.getD_none, Int.toNat_natCast, List.take_length, List.drop_zero, Nat.zero_add, List.nil_append, List.all_nil, List.append_nil, Bool.true_and, Bool.and_true, rowsA_sla, rowsA_sl, rowsA_nil, minus_zero, nat_le_cast, nat_nonneg, Option.isSome_some, Option.isSome_none, Bool.false_eq_true, false_and, and_false, if_true, if_false, implies_true, Int.toNat_zero, Bool.not_false, Bool.not_true, bne_self_eq_false]; rfl))
theorem t24 (L n : Nat) (es : List (List DV)) (id c : Int) : FK tab spC7 lsp0 L (n+8) 24 [.sla false 7 es, .int .i64 id, .int .i64 c] =
   (need (drpS.D [DV.sla false 7 es, DV.int .i64 id])
 (bif dropE es id != (0 : Int) then some (DV.tuple [DV.sla false 7 es, DV.int .i64 (dropE es id)])
 else
 need
 (putS.D
 [DV.sla false 7 (dropL es id),
 DV.agg
 [DV.int .i64 (cellA (dropP es id) 0).toI, DV.int .i64 (cellA (dropP es id) 1).toI, DV.int .i64 (cellA (dropP es id) 2).toI, DV.int .i64 (cellA (dropP es id) 3).toI, DV.int .i64 c, DV.int .i64 (cellA (dropP es id) 5).toI, DV.int .i64 (cellA (dropP es id) 6).toI]])
 (some
 (DV.tuple
 [DV.sla false 7
 (putL (dropL es id)
 [DV.int .i64 (cellA (dropP es id) 0).toI, DV.int .i64 (cellA (dropP es id) 1).toI, DV.int .i64 (cellA (dropP es id) 2).toI, DV.int .i64 (cellA (dropP es id) 3).toI, DV.int .i64 c, DV.int .i64 (cellA (dropP es id) 5).toI, DV.int .i64 (cellA (dropP es id) 6).toI]), DV.int .i64
 (putE (dropL es id)
 [DV.int .i64 (cellA (dropP es id) 0).toI, DV.int .i64 (cellA (dropP es id) 1).toI, DV.int .i64 (cellA (dropP es id) 2).toI, DV.int .i64 (cellA (dropP es id) 3).toI, DV.int .i64 c, DV.int .i64 (cellA (dropP es id) 5).toI, DV.int .i64 (cellA (dropP es id) 6).toI])])))) :=
  (show FK tab spC7 lsp0 L (n+8) 24 [.sla false 7 es, .int .i64 id, .int .i64 c] =
 (need (FSpec.D (drpS) [(.sla false 7 es), (.int .i64 id)])
 (cond (dropE (rowsA (DV.sla false 7 es)) id != (0 : Int))
 (some (.tuple [(.sla false 7 es), (.int .i64 (dropE (rowsA (DV.sla false 7 es)) id))]))
 (need (FSpec.D (putS) [(.sla false 7 (dropL (rowsA (DV.sla false 7 es)) id)), (.agg [(.int .i64 ((cellA (dropP (rowsA (DV.sla false 7 es)) id) (0 : Nat)).toI)), (.int .i64 ((cellA (dropP (rowsA (DV.sla false 7 es)) id) (1 : Nat)).toI)), (.int .i64 ((cellA (dropP (rowsA (DV.sla false 7 es)) id) (2 : Nat)).toI)), (.int .i64 ((cellA (dropP (rowsA (DV.sla false 7 es)) id) (3 : Nat)).toI)), (.int .i64 c), (.int .i64 ((cellA (dropP (rowsA (DV.sla false 7 es)) id) (5 : Nat)).toI)), (.int .i64 ((cellA (dropP (rowsA (DV.sla false 7 es)) id) (6 : Nat)).toI))])])
 (some (.tuple [(.sla false 7 (putL (rowsA (DV.sla false 7 (dropL (rowsA (DV.sla false 7 es)) id))) [DV.int .i64 (cellA (dropP (rowsA (DV.sla false 7 es)) id) (0 : Nat)).toI, DV.int .i64 (cellA (dropP (rowsA (DV.sla false 7 es)) id) (1 : Nat)).toI, DV.int .i64 (cellA (dropP (rowsA (DV.sla false 7 es)) id) (2 : Nat)).toI, DV.int .i64 (cellA (dropP (rowsA (DV.sla false 7 es)) id) (3 : Nat)).toI, DV.int .i64 c, DV.int .i64 (cellA (dropP (rowsA (DV.sla false 7 es)) id) (5 : Nat)).toI, DV.int .i64 (cellA (dropP (rowsA (DV.sla false 7 es)) id) (6 : Nat)).toI])), (.int .i64 (putE (rowsA (DV.sla false 7 (dropL (rowsA (DV.sla false 7 es)) id))) [DV.int .i64 (cellA (dropP (rowsA (DV.sla false 7 es)) id) (0 : Nat)).toI, DV.int .i64 (cellA (dropP (rowsA (DV.sla false 7 es)) id) (1 : Nat)).toI, DV.int .i64 (cellA (dropP (rowsA (DV.sla false 7 es)) id) (2 : Nat)).toI, DV.int .i64 (cellA (dropP (rowsA (DV.sla false 7 es)) id) (3 : Nat)).toI, DV.int .i64 c, DV.int .i64 (cellA (dropP (rowsA (DV.sla false 7 es)) id) (5 : Nat)).toI, DV.int .i64 (cellA (dropP (rowsA (DV.sla false 7 es)) id) (6 : Nat)).toI]))]))))) from by kernel_rfl).trans (by first | rfl | (simp only [decide_true, decide_false, eq_self, and_true, true_and, and_self, cond_true, cond_false, Nat.le_refl, Int.le_refl, Option.getD_some, Option.getD_none, Int.toNat_natCast, List.take_length, List.drop_zero, Nat.zero_add, List.nil_append, List.all_nil, List.append_nil, Bool.true_and, Bool.and_true, rowsA_sla, rowsA_sl, rowsA_nil, minus_zero, nat_le_cast, nat_nonneg, Option.isSome_some, Option.isSome_none, Bool.false_eq_true, false_and, and_false, if_true, if_false, implies_true, Int.toNat_zero, Bool.not_false, Bool.not_true, bne_self_eq_false]; done) | (simp only [decide_true, decide_false, eq_self, and_true, true_and, and_self, cond_true, cond_false, Nat.le_refl, Int.le_refl, Option.getD_some, Option.getD_none, Int.toNat_natCast, List.take_length, List.drop_zero, Nat.zero_add, List.nil_append, List.all_nil, List.append_nil, Bool.true_and, Bool.and_true, rowsA_sla, rowsA_sl, rowsA_nil, minus_zero, nat_le_cast, nat_nonneg, Option.isSome_some, Option.isSome_none, Bool.false_eq_true, false_and, and_false, if_true, if_false, implies_true, Int.toNat_zero, Bool.not_false, Bool.not_true, bne_self_eq_false]; rfl))
theorem t25 (L n : Nat) (es : List (List DV)) (id : Int) : FK tab spG lsp0 L (n+8) 25 [.sla false 7 es, .int .i64 id] =
   (need (fndS.D [DV.sla false 7 es, DV.int .i64 id])
 (bif decide (fI es id < (0 : Int)) then
 some
 (DV.tuple
 [DV.sla false 7 es,
 DV.agg
 [DV.int .i64 0, DV.int .i64 0, DV.int .i64 0, DV.int .i64 0, DV.int .i64 0, DV.int .i64 0, DV.int .i64 0], DV.int .i64 4])
 else
 bif decide ((0 : Int) ≤ fI es id) then
 bif decide (fI es id ≤ (↑es.length : Int)) then
 bif decide ((List.take (fI es id).toNat es).length = (0 : Nat)) then
 bif decide ((0 : Int) ≤ IntKind.i64.wrap (fI es id + (1 : Int))) then
 bif decide (IntKind.i64.wrap (fI es id + (1 : Int)) ≤ (↑es.length : Int)) then
 bif decide ((List.drop (IntKind.i64.wrap (fI es id + (1 : Int))).toNat es).length = (0 : Nat)) then
 bif decide ((0 : Int) ≤ fI es id) then
 lookK es[(fI es id).toNat]? fun (e10 : List DV) =>
 bif
 okRow
 [DV.int .i64 0, DV.int .i64 0, DV.int .i64 0, DV.int .i64 0, DV.int .i64 0, DV.int .i64 0, DV.int .i64 0]
 e10 then
 some
 (DV.tuple
 [DV.sl SK.tight 7 [],
 DV.agg
 [DV.int .i64 (cellA e10 0).toI, DV.int .i64 (cellA e10 1).toI, DV.int .i64 (cellA e10 2).toI, DV.int .i64 (cellA e10 3).toI, DV.int .i64 (cellA e10 4).toI, DV.int .i64 (cellA e10 5).toI, DV.int .i64 (cellA e10 6).toI], DV.int .i64 0])
 else none
 else none
 else
 bif (List.drop (IntKind.i64.wrap (fI es id + (1 : Int))).toNat es).all fun (e : List DV) => e.length == (7 : Nat) && e.all DV.one then
 bif
 decide
 ((List.drop (IntKind.i64.wrap (fI es id + (1 : Int))).toNat es).length * (56 : Nat) ≤ room ∧
 (List.drop (IntKind.i64.wrap (fI es id + (1 : Int))).toNat es).length ≤ room) then
 bif decide ((0 : Int) ≤ fI es id) then
 lookK es[(fI es id).toNat]? fun (e12 : List DV) =>
 bif
 okRow
 [DV.int .i64 0, DV.int .i64 0, DV.int .i64 0, DV.int .i64 0, DV.int .i64 0, DV.int .i64 0, DV.int .i64 0]
 e12 then
 some
 (DV.tuple
 [DV.sl (SK.own (38 : Nat)) (7 : Nat) (List.drop (IntKind.i64.wrap (fI es id + (1 : Int))).toNat es),
 DV.agg
 [DV.int .i64 (cellA e12 0).toI, DV.int .i64 (cellA e12 1).toI, DV.int .i64 (cellA e12 2).toI, DV.int .i64 (cellA e12 3).toI, DV.int .i64 (cellA e12 4).toI, DV.int .i64 (cellA e12 5).toI, DV.int .i64 (cellA e12 6).toI], DV.int .i64 0])
 else none
 else none
 else none
 else none
 else none
 else none
 else
 bif (List.take (fI es id).toNat es).all fun (e : List DV) => e.length == (7 : Nat) && e.all DV.one then
 bif decide ((List.take (fI es id).toNat es).length * (56 : Nat) ≤ room ∧ (List.take (fI es id).toNat es).length ≤ room) then
 bif decide ((0 : Int) ≤ IntKind.i64.wrap (fI es id + (1 : Int))) then
 bif decide (IntKind.i64.wrap (fI es id + (1 : Int)) ≤ (↑es.length : Int)) then
 bif decide ((List.drop (IntKind.i64.wrap (fI es id + (1 : Int))).toNat es).length = (0 : Nat)) then
 bif decide ((0 : Int) ≤ fI es id) then
 lookK es[(fI es id).toNat]? fun (e12 : List DV) =>
 bif
 okRow
 [DV.int .i64 0, DV.int .i64 0, DV.int .i64 0, DV.int .i64 0, DV.int .i64 0, DV.int .i64 0, DV.int .i64 0]
 e12 then
 some
 (DV.tuple
 [DV.sl (SK.own (38 : Nat)) (7 : Nat) (List.take (fI es id).toNat es),
 DV.agg
 [DV.int .i64 (cellA e12 0).toI, DV.int .i64 (cellA e12 1).toI, DV.int .i64 (cellA e12 2).toI, DV.int .i64 (cellA e12 3).toI, DV.int .i64 (cellA e12 4).toI, DV.int .i64 (cellA e12 5).toI, DV.int .i64 (cellA e12 6).toI], DV.int .i64 0])
 else none
 else none
 else
 bif (List.drop (IntKind.i64.wrap (fI es id + (1 : Int))).toNat es).all fun (e : List DV) => e.length == (7 : Nat) && e.all DV.one then
 bif
 decide
 ((List.take (fI es id).toNat es ++ List.drop (IntKind.i64.wrap (fI es id + (1 : Int))).toNat es).length * (56 : Nat) ≤ room ∧
 (List.take (fI es id).toNat es ++ List.drop (IntKind.i64.wrap (fI es id + (1 : Int))).toNat es).length ≤ room) then
 bif decide ((0 : Int) ≤ fI es id) then
 lookK es[(fI es id).toNat]? fun (e14 : List DV) =>
 bif
 okRow
 [DV.int .i64 0, DV.int .i64 0, DV.int .i64 0, DV.int .i64 0, DV.int .i64 0, DV.int .i64 0, DV.int .i64 0]
 e14 then
 some
 (DV.tuple
 [DV.sl (SK.own (38 : Nat)) (7 : Nat)
 (List.take (fI es id).toNat es ++ List.drop (IntKind.i64.wrap (fI es id + (1 : Int))).toNat es),
 DV.agg
 [DV.int .i64 (cellA e14 0).toI, DV.int .i64 (cellA e14 1).toI, DV.int .i64 (cellA e14 2).toI, DV.int .i64 (cellA e14 3).toI, DV.int .i64 (cellA e14 4).toI, DV.int .i64 (cellA e14 5).toI, DV.int .i64 (cellA e14 6).toI], DV.int .i64 0])
 else none
 else none
 else none
 else none
 else none
 else none
 else none
 else none
 else none
 else none)) :=
  (show FK tab spG lsp0 L (n+8) 25 [.sla false 7 es, .int .i64 id] =
 (need (FSpec.D (fndS) [(.sla false 7 es), (.int .i64 id)])
 (cond (decide (fI (rowsA (DV.sla false 7 es)) id < (0 : Int)))
 (some (.tuple [(.sla false 7 es), (.agg [(.int .i64 ((0 : Int))), (.int .i64 ((0 : Int))), (.int .i64 ((0 : Int))), (.int .i64 ((0 : Int))), (.int .i64 ((0 : Int))), (.int .i64 ((0 : Int))), (.int .i64 ((0 : Int)))]), (.int .i64 ((4 : Int)))]))
 (cond (decide (none.getD (0 : Int) ≤ (some (fI (rowsA (DV.sla false 7 es)) id)).getD (↑es.length : Int)))
 (cond (decide ((some (fI (rowsA (DV.sla false 7 es)) id)).getD (↑es.length : Int) ≤ (↑es.length : Int)))
 (cond (decide ((List.drop (none.getD (0 : Int)).toNat (List.take ((some (fI (rowsA (DV.sla false 7 es)) id)).getD (↑es.length : Int)).toNat es)).length = (0 : Nat)))
 (cond (decide ((0 : Int) ≤ (some (IntKind.i64.wrap (fI (rowsA (DV.sla false 7 es)) id + (1 : Int)))).getD (0 : Int)))
 (cond (decide ((some (IntKind.i64.wrap (fI (rowsA (DV.sla false 7 es)) id + (1 : Int)))).getD (0 : Int) ≤ none.getD (↑es.length : Int)))
 (cond (decide (none.getD (↑es.length : Int) ≤ (↑es.length : Int)))
 (cond (decide ((List.drop ((some (IntKind.i64.wrap (fI (rowsA (DV.sla false 7 es)) id + (1 : Int)))).getD (0 : Int)).toNat (List.take (none.getD (↑es.length : Int)).toNat es)).length = (0 : Nat)))
 (cond (decide ((0 : Int) ≤ fI (rowsA (DV.sla false 7 es)) id))
 (lookK (es[(fI (rowsA (DV.sla false 7 es)) id).toNat]?)
 fun e10 =>
 (cond (okRow [DV.int .i64 0, DV.int .i64 0, DV.int .i64 0, DV.int .i64 0, DV.int .i64 0, DV.int .i64 0, DV.int .i64 0] e10)
 (some (.tuple [(.sl (SK.tight) 7 []), (.agg [(.int .i64 ((cellA e10 0).toI)), (.int .i64 ((cellA e10 1).toI)), (.int .i64 ((cellA e10 2).toI)), (.int .i64 ((cellA e10 3).toI)), (.int .i64 ((cellA e10 4).toI)), (.int .i64 ((cellA e10 5).toI)), (.int .i64 ((cellA e10 6).toI))]), (.int .i64 ((0 : Int)))]))
 none))
 none)
 (cond ((List.drop ((some (IntKind.i64.wrap (fI (rowsA (DV.sla false 7 es)) id + (1 : Int)))).getD (0 : Int)).toNat (List.take (none.getD (↑es.length : Int)).toNat es)).all fun (e : List DV) => e.length == (7 : Nat) && e.all DV.one)
 (cond (decide ((7 : Nat) = (7 : Nat) ∧ (List.drop ((some (IntKind.i64.wrap (fI (rowsA (DV.sla false 7 es)) id + (1 : Int)))).getD (0 : Int)).toNat (List.take (none.getD (↑es.length : Int)).toNat es)).length * (56 : Nat) ≤ room ∧ (List.drop ((some (IntKind.i64.wrap (fI (rowsA (DV.sla false 7 es)) id + (1 : Int)))).getD (0 : Int)).toNat (List.take (none.getD (↑es.length : Int)).toNat es)).length ≤ room ∧ ([].all fun (e : List DV) => e.length == (7 : Nat) && e.all DV.one) = true))
 (cond (decide ((0 : Int) ≤ fI (rowsA (DV.sla false 7 es)) id))
 (lookK (es[(fI (rowsA (DV.sla false 7 es)) id).toNat]?)
 fun e12 =>
 (cond (okRow [DV.int .i64 0, DV.int .i64 0, DV.int .i64 0, DV.int .i64 0, DV.int .i64 0, DV.int .i64 0, DV.int .i64 0] e12)
 (cond (decide ((List.drop ((some (IntKind.i64.wrap (fI (rowsA (DV.sla false 7 es)) id + (1 : Int)))).getD (0 : Int)).toNat (List.take (none.getD (↑es.length : Int)).toNat es)).length = (List.drop ((some (IntKind.i64.wrap (fI (rowsA (DV.sla false 7 es)) id + (1 : Int)))).getD (0 : Int)).toNat (List.take (none.getD (↑es.length : Int)).toNat es)).length))
 (some (.tuple [(.sl (SK.own (38 : Nat)) 7 (List.drop ((some (IntKind.i64.wrap (fI (rowsA (DV.sla false 7 es)) id + (1 : Int)))).getD (0 : Int)).toNat (List.take (none.getD (↑es.length : Int)).toNat es))), (.agg [(.int .i64 ((cellA e12 0).toI)), (.int .i64 ((cellA e12 1).toI)), (.int .i64 ((cellA e12 2).toI)), (.int .i64 ((cellA e12 3).toI)), (.int .i64 ((cellA e12 4).toI)), (.int .i64 ((cellA e12 5).toI)), (.int .i64 ((cellA e12 6).toI))]), (.int .i64 ((0 : Int)))]))
 (cond (decide ((0 : Nat) + (List.drop ((some (IntKind.i64.wrap (fI (rowsA (DV.sla false 7 es)) id + (1 : Int)))).getD (0 : Int)).toNat (List.take (none.getD (↑es.length : Int)).toNat es)).length ≤ (List.drop ((some (IntKind.i64.wrap (fI (rowsA (DV.sla false 7 es)) id + (1 : Int)))).getD (0 : Int)).toNat (List.take (none.getD (↑es.length : Int)).toNat es)).length))
 (some (.tuple [(.sl (SK.ro) 7 (List.take (List.drop ((some (IntKind.i64.wrap (fI (rowsA (DV.sla false 7 es)) id + (1 : Int)))).getD (0 : Int)).toNat (List.take (none.getD (↑es.length : Int)).toNat es)).length (List.drop ((some (IntKind.i64.wrap (fI (rowsA (DV.sla false 7 es)) id + (1 : Int)))).getD (0 : Int)).toNat (List.take (none.getD (↑es.length : Int)).toNat es)))), (.agg [(.int .i64 ((cellA e12 0).toI)), (.int .i64 ((cellA e12 1).toI)), (.int .i64 ((cellA e12 2).toI)), (.int .i64 ((cellA e12 3).toI)), (.int .i64 ((cellA e12 4).toI)), (.int .i64 ((cellA e12 5).toI)), (.int .i64 ((cellA e12 6).toI))]), (.int .i64 ((0 : Int)))]))
 none))
 none))
 none)
 none)
 none))
 none)
 none)
 none)
 (cond ((List.drop (none.getD (0 : Int)).toNat (List.take ((some (fI (rowsA (DV.sla false 7 es)) id)).getD (↑es.length : Int)).toNat es)).all fun (e : List DV) => e.length == (7 : Nat) && e.all DV.one)
 (cond (decide ((7 : Nat) = (7 : Nat) ∧ (List.drop (none.getD (0 : Int)).toNat (List.take ((some (fI (rowsA (DV.sla false 7 es)) id)).getD (↑es.length : Int)).toNat es)).length * (56 : Nat) ≤ room ∧ (List.drop (none.getD (0 : Int)).toNat (List.take ((some (fI (rowsA (DV.sla false 7 es)) id)).getD (↑es.length : Int)).toNat es)).length ≤ room ∧ ([].all fun (e : List DV) => e.length == (7 : Nat) && e.all DV.one) = true))
 (cond (decide ((0 : Int) ≤ (some (IntKind.i64.wrap (fI (rowsA (DV.sla false 7 es)) id + (1 : Int)))).getD (0 : Int)))
 (cond (decide ((some (IntKind.i64.wrap (fI (rowsA (DV.sla false 7 es)) id + (1 : Int)))).getD (0 : Int) ≤ none.getD (↑es.length : Int)))
 (cond (decide (none.getD (↑es.length : Int) ≤ (↑es.length : Int)))
 (cond (decide ((List.drop ((some (IntKind.i64.wrap (fI (rowsA (DV.sla false 7 es)) id + (1 : Int)))).getD (0 : Int)).toNat (List.take (none.getD (↑es.length : Int)).toNat es)).length = (0 : Nat)))
 (cond (decide ((0 : Int) ≤ fI (rowsA (DV.sla false 7 es)) id))
 (lookK (es[(fI (rowsA (DV.sla false 7 es)) id).toNat]?)
 fun e12 =>
 (cond (okRow [DV.int .i64 0, DV.int .i64 0, DV.int .i64 0, DV.int .i64 0, DV.int .i64 0, DV.int .i64 0, DV.int .i64 0] e12)
 (cond (decide ((List.drop (none.getD (0 : Int)).toNat (List.take ((some (fI (rowsA (DV.sla false 7 es)) id)).getD (↑es.length : Int)).toNat es)).length = (List.drop (none.getD (0 : Int)).toNat (List.take ((some (fI (rowsA (DV.sla false 7 es)) id)).getD (↑es.length : Int)).toNat es)).length))
 (some (.tuple [(.sl (SK.own (38 : Nat)) 7 (List.drop (none.getD (0 : Int)).toNat (List.take ((some (fI (rowsA (DV.sla false 7 es)) id)).getD (↑es.length : Int)).toNat es))), (.agg [(.int .i64 ((cellA e12 0).toI)), (.int .i64 ((cellA e12 1).toI)), (.int .i64 ((cellA e12 2).toI)), (.int .i64 ((cellA e12 3).toI)), (.int .i64 ((cellA e12 4).toI)), (.int .i64 ((cellA e12 5).toI)), (.int .i64 ((cellA e12 6).toI))]), (.int .i64 ((0 : Int)))]))
 (cond (decide ((0 : Nat) + (List.drop (none.getD (0 : Int)).toNat (List.take ((some (fI (rowsA (DV.sla false 7 es)) id)).getD (↑es.length : Int)).toNat es)).length ≤ (List.drop (none.getD (0 : Int)).toNat (List.take ((some (fI (rowsA (DV.sla false 7 es)) id)).getD (↑es.length : Int)).toNat es)).length))
 (some (.tuple [(.sl (SK.ro) 7 (List.take (List.drop (none.getD (0 : Int)).toNat (List.take ((some (fI (rowsA (DV.sla false 7 es)) id)).getD (↑es.length : Int)).toNat es)).length (List.drop (none.getD (0 : Int)).toNat (List.take ((some (fI (rowsA (DV.sla false 7 es)) id)).getD (↑es.length : Int)).toNat es)))), (.agg [(.int .i64 ((cellA e12 0).toI)), (.int .i64 ((cellA e12 1).toI)), (.int .i64 ((cellA e12 2).toI)), (.int .i64 ((cellA e12 3).toI)), (.int .i64 ((cellA e12 4).toI)), (.int .i64 ((cellA e12 5).toI)), (.int .i64 ((cellA e12 6).toI))]), (.int .i64 ((0 : Int)))]))
 none))
 none))
 none)
 (cond ((List.drop ((some (IntKind.i64.wrap (fI (rowsA (DV.sla false 7 es)) id + (1 : Int)))).getD (0 : Int)).toNat (List.take (none.getD (↑es.length : Int)).toNat es)).all fun (e : List DV) => e.length == (7 : Nat) && e.all DV.one)
 (cond (decide ((38 : Nat) = (38 : Nat) ∧ (7 : Nat) = (7 : Nat) ∧ (7 : Nat) = (7 : Nat) ∧ (0 : Nat) = (0 : Nat) ∧ (List.drop (none.getD (0 : Int)).toNat (List.take ((some (fI (rowsA (DV.sla false 7 es)) id)).getD (↑es.length : Int)).toNat es)).length = (List.drop (none.getD (0 : Int)).toNat (List.take ((some (fI (rowsA (DV.sla false 7 es)) id)).getD (↑es.length : Int)).toNat es)).length ∧ (List.drop (none.getD (0 : Int)).toNat (List.take ((some (fI (rowsA (DV.sla false 7 es)) id)).getD (↑es.length : Int)).toNat es) ++ List.drop ((some (IntKind.i64.wrap (fI (rowsA (DV.sla false 7 es)) id + (1 : Int)))).getD (0 : Int)).toNat (List.take (none.getD (↑es.length : Int)).toNat es)).length * (56 : Nat) ≤ room ∧ (List.drop (none.getD (0 : Int)).toNat (List.take ((some (fI (rowsA (DV.sla false 7 es)) id)).getD (↑es.length : Int)).toNat es) ++ List.drop ((some (IntKind.i64.wrap (fI (rowsA (DV.sla false 7 es)) id + (1 : Int)))).getD (0 : Int)).toNat (List.take (none.getD (↑es.length : Int)).toNat es)).length ≤ room))
 (cond (decide ((0 : Int) ≤ fI (rowsA (DV.sla false 7 es)) id))
 (lookK (es[(fI (rowsA (DV.sla false 7 es)) id).toNat]?)
 fun e14 =>
 (cond (okRow [DV.int .i64 0, DV.int .i64 0, DV.int .i64 0, DV.int .i64 0, DV.int .i64 0, DV.int .i64 0, DV.int .i64 0] e14)
 (cond (decide ((List.drop (none.getD (0 : Int)).toNat (List.take ((some (fI (rowsA (DV.sla false 7 es)) id)).getD (↑es.length : Int)).toNat es) ++ List.drop ((some (IntKind.i64.wrap (fI (rowsA (DV.sla false 7 es)) id + (1 : Int)))).getD (0 : Int)).toNat (List.take (none.getD (↑es.length : Int)).toNat es)).length = (List.drop (none.getD (0 : Int)).toNat (List.take ((some (fI (rowsA (DV.sla false 7 es)) id)).getD (↑es.length : Int)).toNat es) ++ List.drop ((some (IntKind.i64.wrap (fI (rowsA (DV.sla false 7 es)) id + (1 : Int)))).getD (0 : Int)).toNat (List.take (none.getD (↑es.length : Int)).toNat es)).length))
 (some (.tuple [(.sl (SK.own (38 : Nat)) 7 (List.drop (none.getD (0 : Int)).toNat (List.take ((some (fI (rowsA (DV.sla false 7 es)) id)).getD (↑es.length : Int)).toNat es) ++ List.drop ((some (IntKind.i64.wrap (fI (rowsA (DV.sla false 7 es)) id + (1 : Int)))).getD (0 : Int)).toNat (List.take (none.getD (↑es.length : Int)).toNat es))), (.agg [(.int .i64 ((cellA e14 0).toI)), (.int .i64 ((cellA e14 1).toI)), (.int .i64 ((cellA e14 2).toI)), (.int .i64 ((cellA e14 3).toI)), (.int .i64 ((cellA e14 4).toI)), (.int .i64 ((cellA e14 5).toI)), (.int .i64 ((cellA e14 6).toI))]), (.int .i64 ((0 : Int)))]))
 (cond (decide ((0 : Nat) + (List.drop (none.getD (0 : Int)).toNat (List.take ((some (fI (rowsA (DV.sla false 7 es)) id)).getD (↑es.length : Int)).toNat es) ++ List.drop ((some (IntKind.i64.wrap (fI (rowsA (DV.sla false 7 es)) id + (1 : Int)))).getD (0 : Int)).toNat (List.take (none.getD (↑es.length : Int)).toNat es)).length ≤ (List.drop (none.getD (0 : Int)).toNat (List.take ((some (fI (rowsA (DV.sla false 7 es)) id)).getD (↑es.length : Int)).toNat es) ++ List.drop ((some (IntKind.i64.wrap (fI (rowsA (DV.sla false 7 es)) id + (1 : Int)))).getD (0 : Int)).toNat (List.take (none.getD (↑es.length : Int)).toNat es)).length))
 (some (.tuple [(.sl (SK.ro) 7 (List.take (List.drop (none.getD (0 : Int)).toNat (List.take ((some (fI (rowsA (DV.sla false 7 es)) id)).getD (↑es.length : Int)).toNat es) ++ List.drop ((some (IntKind.i64.wrap (fI (rowsA (DV.sla false 7 es)) id + (1 : Int)))).getD (0 : Int)).toNat (List.take (none.getD (↑es.length : Int)).toNat es)).length (List.drop (none.getD (0 : Int)).toNat (List.take ((some (fI (rowsA (DV.sla false 7 es)) id)).getD (↑es.length : Int)).toNat es) ++ List.drop ((some (IntKind.i64.wrap (fI (rowsA (DV.sla false 7 es)) id + (1 : Int)))).getD (0 : Int)).toNat (List.take (none.getD (↑es.length : Int)).toNat es)))), (.agg [(.int .i64 ((cellA e14 0).toI)), (.int .i64 ((cellA e14 1).toI)), (.int .i64 ((cellA e14 2).toI)), (.int .i64 ((cellA e14 3).toI)), (.int .i64 ((cellA e14 4).toI)), (.int .i64 ((cellA e14 5).toI)), (.int .i64 ((cellA e14 6).toI))]), (.int .i64 ((0 : Int)))]))
 none))
 none))
 none)
 none)
 none))
 none)
 none)
 none)
 none)
 none))
 none)
 none))) from by kernel_rfl).trans (by first | rfl | (simp only [decide_true, decide_false, eq_self, and_true, true_and, and_self, cond_true, cond_false, Nat.le_refl, Int.le_refl, Option.getD_some, Option.getD_none, Int.toNat_natCast, List.take_length, List.drop_zero, Nat.zero_add, List.nil_append, List.all_nil, List.append_nil, Bool.true_and, Bool.and_true, rowsA_sla, rowsA_sl, rowsA_nil, minus_zero, nat_le_cast, nat_nonneg, Option.isSome_some, Option.isSome_none, Bool.false_eq_true, false_and, and_false, if_true, if_false, implies_true, Int.toNat_zero, Bool.not_false, Bool.not_true, bne_self_eq_false]; done) | (simp only [decide_true, decide_false, eq_self, and_true, true_and, and_self, cond_true, cond_false, Nat.le_refl, Int.le_refl, Option.getD_some, Option.getD_none, Int.toNat_natCast, List.take_length, List.drop_zero, Nat.zero_add, List.nil_append, List.all_nil, List.append_nil, Bool.true_and, Bool.and_true, rowsA_sla, rowsA_sl, rowsA_nil, minus_zero, nat_le_cast, nat_nonneg, Option.isSome_some, Option.isSome_none, Bool.false_eq_true, false_and, and_false, if_true, if_false, implies_true, Int.toNat_zero, Bool.not_false, Bool.not_true, bne_self_eq_false]; rfl))
theorem eq7 {a b : List DV} (ha : okRow z7 a = true) (hb : okRow z7 b = true) : ((cellA a 0).toI == (cellA b 0).toI && ((cellA a 1).toI == (cellA b 1).toI && ((cellA a 2).toI == (cellA b 2).toI && ((cellA a 3).toI == (cellA b 3).toI && ((cellA a 4).toI == (cellA b 4).toI && ((cellA a 5).toI == (cellA b 5).toI && (cellA a 6).toI == (cellA b 6).toI)))))) = decide (ints a = ints b) := by
  obtain ⟨a0, a1, a2, a3, a4, a5, a6, rfl⟩ := okRow_p ha
  obtain ⟨b0, b1, b2, b3, b4, b5, b6, rfl⟩ := okRow_p hb
  rw [Bool.eq_iff_iff]
  simp [ints, DV.toI, cellA]
theorem loop270 (L n : Nat) {es es2 : List (List DV)} (hz : ∀ e ∈ es, okRow z7 e = true) (hz2 : ∀ e ∈ es2, okRow z7 e = true) (hl : es.length ≤ 1000) (hle : es2.length = es.length) : ∀ r, (LR.br (sameP es es2) (.one (.ex 0) (St.of [] [])) (.one .ret (St.of [(4, .d (.bool false))] []))).val = some r →
    LoopOk (LB tab noSp lg L (n+4) h270 c27l0) (S270 (.sla false 7 es) (.sla false 7 es2) 0) r := by
  intro r hr
  have key := loop_list (f := LB tab noSp lg L (n+4) h270 c27l0) (fun i => S270 (.sla false 7 es) (.sla false 7 es2) (i : Nat)) es (fun i => ((LR.br (sameP (es.drop i) (es2.drop i)) (.one (.ex 0) (St.of [] [])) (.one .ret (St.of [(4, .d (.bool false))] []))).val).getD (.nrm, St.of [] []))
    (fun i hi => by
      have hzi := hz es[i] (List.getElem_mem hi)
      have hi2 : i < es2.length := by omega
      have hzi2 := hz2 es2[i] (List.getElem_mem hi2)
      have hd : sameP (es.drop i) (es2.drop i) = (decide (ints es[i] = ints es2[i]) && sameP (es.drop (i + 1)) (es2.drop (i + 1))) := by
        unfold sameP
        rw [List.drop_eq_getElem_cons hi, List.drop_eq_getElem_cons hi2]
        simp only [List.map_cons, List.cons.injEq, Bool.decide_and]
      have hstep : ∀ k, LB tab noSp lg L (n+4) h270 c27l0 (S270 (.sla false 7 es) (.sla false 7 es2) (i : Nat)) k = cond (decide (ints es[i] = ints es2[i])) (k .nrm (S270 (.sla false 7 es) (.sla false 7 es2) ((i + 1 : Nat) : Int))) (k .ret (St.of [(4, .d (.bool false))] [])) := by
        intro k
        rw [s270, lt_dec hi, cond_true, look_nat hi, hzi, cond_true, look_nat hi2, hzi2, cond_true, wrap_succ (by omega), eq7 hzi hzi2]
        cases decide (ints es[i] = ints es2[i]) <;> rfl
      cases hc : decide (ints es[i] = ints es2[i]) with
      | false =>
        right
        simp only [hd, hc, Bool.false_and, LR.val, cond_false, Option.getD_some]
        exact ⟨by simp, fun k => by rw [hstep, hc]; rfl⟩
      | true =>
        left
        simp only [hd, hc, Bool.true_and]
        exact ⟨fun k => by rw [hstep, hc]; rfl, trivial⟩)
    (by
      have he : es2.drop es.length = [] := by rw [← hle, List.drop_length]
      simp only [List.drop_length, he, sameP, decide_true, LR.val, cond_true, Option.getD_some]
      exact ⟨by simp, fun k => by rw [s270, lt_dec_self]; rfl⟩)
  simp only [List.drop_zero, hr, Option.getD_some] at key
  exact key
theorem same27 : samP.ok Try.prog 27 := fun ds r hD hv => by
  obtain ⟨x, y, rfl, ⟨hx, hz, hl⟩, ⟨hy, hz2, hl2⟩⟩ := hD
  cases hv
  refine EntX.gen2 hx hy (spec_run (lsp := lg) tab_ok noSp_ok 20 (0 + 8) ((t27 20 0 (rowsA x) (rowsA y)).trans ?_))
  generalize rowsA x = es at *
  generalize rowsA y = es2 at *
  by_cases hle : es2.length = es.length
  · have h := loop270 20 (0 + 4) hz hz2 hl hle
    rw [hle, bne_self_eq_false, cond_false]
    cases hb : sameP es es2 with
    | true =>
      rw [hb] at h
      exact (need_pos (h _ rfl)).trans rfl
    | false =>
      rw [hb] at h
      exact (need_pos (h _ rfl)).trans rfl
  · have hb : sameP es es2 = false := decide_eq_false fun h => hle (by have := congrArg List.length h; simpa using this.symm)
    rw [hb, show (((es.length : Nat) : Int) != ((es2.length : Nat) : Int)) = true from bne_iff_ne.2 (by omega)]
    rfl
theorem spC7_ok : ∀ f s, spC7 f = some s → s.ok Try.prog f := spAdd_ok put22 (spAdd_ok drop23 noSp_ok)
theorem drop_rows {es : List (List DV)} (hz : ∀ e ∈ es, okRow z7 e = true) (id : Int) : (∀ e ∈ dropL es id, okRow z7 e = true) ∧ (dropL es id).length ≤ es.length := by
  unfold dropL delB
  cases decide (fI es id < 0) with
  | true => exact ⟨hz, Nat.le_refl _⟩
  | false =>
    refine ⟨fun e he => ?_, ?_⟩
    · rcases List.mem_append.1 he with h | h
      · exact hz e (List.mem_of_mem_take h)
      · exact hz e (List.mem_of_mem_drop h)
    · simp only [cond_false, List.length_append, List.length_take, List.length_drop]
      omega
theorem cls24 : clsS.ok Try.prog 24 := fun ds r hD hv => by
  obtain ⟨x, id, c, rfl, hx, hz, hl⟩ := hD
  cases hv
  refine EntX.gen1 hx ?_
  generalize rowsA x = es at *
  have h := (t24 20 0 es id c).trans (need_pos ⟨_, _, rfl, Sl.sla _ _ _, hz, hl⟩)
  unfold clsL clsE
  obtain ⟨d1, d2⟩ := drop_rows hz id
  by_cases h1 : fI es id < 0
  · have e : dropE es id = 4 := by unfold dropE; rw [decide_eq_true h1]; rfl
    rw [e] at h
    rw [decide_eq_true h1]
    exact spec_run (lsp := lsp0) tab_ok spC7_ok 20 (0 + 8) h
  · have e : dropE es id = 0 := by unfold dropE; rw [decide_eq_false h1]; rfl
    rw [e] at h
    rw [decide_eq_false h1]
    exact spec_run (lsp := lsp0) tab_ok spC7_ok 20 (0 + 8) (h.trans (need_pos ⟨_, _, rfl, ⟨Sl.sla _ _ _, d1, by rw [rowsA_sla]; omega⟩, rfl⟩))
end Go.Proofs.Ytngghbloijkfoaa
