/- What is known of the functions on rows of payments, by their runs: is it a row, one more, one less. No condition. -/
import Derived.Test.YtngghbloijkfoaaRa
namespace Go.Proofs.Ytngghbloijkfoaa
open Go Go.Proofs Go.RowKit Vm
set_option linter.unusedVariables false
set_option linter.unusedSimpArgs false
def uniF (l : List (List DV)) : Nat → List (List DV) → Bool
  | _, [] => true
  | i, e :: es => (fI l (idO e) == ((i : Nat) : Int)) && uniF l (i + 1) es
/-- each ahead of the next -/
def sortB : List (List DV) → Bool
  | [] => true
  | [_] => true
  | a :: b :: l => ahB a b && sortB (b :: l)
def isP (l : List (List DV)) : Bool := uniF l 0 l && (decide (l.length ≤ 40) && sortB l)
def bhP (l : List (List DV)) (p : List DV) : Nat := (l.takeWhile fun e => ahB e p).length
def putE (l : List (List DV)) (p : List DV) : Int := cond (decide (0 ≤ fI l (idO p))) 6 (cond (decide (40 ≤ l.length)) 3 0)
def putL (l : List (List DV)) (p : List DV) : List (List DV) := cond (decide (0 ≤ fI l (idO p))) l (cond (decide (40 ≤ l.length)) l (l.take (bhP l p) ++ (p :: l.drop (bhP l p))))
def srtS : FSpec where
  D ds := ∃ x, ds = [x, .func 39 []] ∧ I7 1000 x
  val ds := match ds with | [x, _] => some (.bool (sortB (rowsA x))) | _ => none
def isPS : FSpec where
  D ds := ∃ x, ds = [x] ∧ I7 1000 x
  val ds := match ds with | [x] => some (.bool (isP (rowsA x))) | _ => none
def putS : FSpec where
  D ds := ∃ x p, ds = [x, .agg p] ∧ I7 1000 x ∧ okRow z7 p = true
  val ds := match ds with | [x, .agg p] => some (.tuple [.sla false 7 (putL (rowsA x) p), .int .i64 (putE (rowsA x) p)]) | _ => none
def insP : FSpec where
  D ds := ∃ es i y p, (ds = [.mv 38 7 es, .int .i64 ((i : Nat) : Int), y] ∧ i ≤ es.length ∨ ds = [.nilsl, .int .i64 ((i : Nat) : Int), y] ∧ i = 0 ∧ es = []) ∧ es.length ≤ 1000 ∧ Sl 7 y ∧ rowsA y = [p] ∧ okRow z7 p = true
  val ds := match ds with
    | [.mv _ _ es, .int _ i, y] => some (.sl (.own 38) 7 (es.take i.toNat ++ (rowsA y ++ es.drop i.toNat)))
    | [_, _, y] => some (.sl (.own 38) 7 (rowsA y))
    | _ => none
noncomputable def spO : FuncId → Option FSpec := spAdd 39 ordS noSp
noncomputable def spG : FuncId → Option FSpec := spAdd 26 fndS noSp
noncomputable def spQ : FuncId → Option FSpec := spAdd 34 fndS (spAdd 41 insP noSp)
noncomputable def spH : FuncId → Option FSpec := spAdd 34 fndS (spAdd 38 srtS noSp)
def S190 (x y : DV) (N i : Int) : St := St.of [(0, .d x), (5, .d y), (6, .d (.int .i64 N)), (7, .d (.int .i64 i))] []
def S200 (x : DV) (i : Int) : St := St.of [(0, .d x), (3, .d (.int .i64 i))] []
def S380 (x : DV) (i : Int) : St := St.of [(0, .d x), (1, .d (.func 39 [])), (5, .d (.int .i64 i))] []
def S220 (x : DV) (p : List DV) (i : Int) : St := St.of [(0, .d x), (3, .d (.rptr p 0)), (6, .d (.int .i64 i))] [(3, none)]
def l190 : LSpec := fun st => match st.env 0 with
  | .d x => .br (uniF (rowsA x) 0 (rowsA x)) (.one (.ex 0) (St.of [(0, .d x)] [])) (.one .ret (St.of [(2, .d (.bool false))] [(24, none)]))
  | _ => .no
def l200 : LSpec := fun st => match st.env 0 with
  | .d x => .br (uniF (rowsA x) 0 (rowsA x) && sortB (rowsA x)) (.one (.ex 0) (St.of [(0, .d x)] [])) (.one .ret (St.of [(2, .d (.bool false))] []))
  | _ => .no
def l380 : LSpec := fun st => match st.env 0 with
  | .d x => .br (sortB (rowsA x)) (.one (.ex 0) (St.of [] [])) (.one .ret (St.of [(4, .d (.bool false))] []))
  | _ => .no
def l220 : LSpec := fun st => match st.env 0, st.env 3 with
  | .d x, .d (.rptr p _) => .one (.ex 1) (St.of [(0, .d x), (3, .d (.rptr p 0)), (6, .d (.int .i64 (bhP (rowsA x) p)))] [(3, none)])
  | _, _ => .no
def lp (k : Nat) : Option LSpec := if k = 190 then some l190 else if k = 200 then some l200 else if k = 380 then some l380 else if k = 220 then some l220 else none
theorem s190 (L n : Nat) (es : List (List DV)) (N : Int) (i : Nat) (k : Kont) : LB tab spH lp L (n+4) h190 c19l0 (S190 (.sla false 7 es) (.sla false 7 es) N i) k =
   (bif decide ((↑i : Int) < N) then
 lookK es[i]? fun (e1 : List DV) =>
 bif
 okRow
 [DV.int .i64 0, DV.int .i64 0, DV.int .i64 0, DV.int .i64 0, DV.int .i64 0, DV.int .i64 0, DV.int .i64 0]
 e1 then
 need (fndS.D [DV.sla false 7 es, DV.int .i64 (cellA e1 0).toI])
 (bif fI es (cellA e1 0).toI != (↑i : Int) then k Ex.ret (St.of [(2, AV.d (DV.bool false))] [(24, none)])
 else
 k Ex.nrm
 (St.of
 [(0, AV.d (DV.sla false 7 es)), (5, AV.d (DV.sla false 7 es)), (6, AV.d (DV.int .i64 N)),
 ((7 : Nat), AV.d (DV.int .i64 (IntKind.i64.wrap ((↑i : Int) + (1 : Int)))))]
 []))
 else none
 else k (Ex.ex (0 : Nat)) (St.of [(0, AV.d (DV.sla false 7 es))] [])) :=
  (show LB tab spH lp L (n+4) h190 c19l0 (S190 (.sla false 7 es) (.sla false 7 es) N i) k =
 (cond (decide ((↑i : Int) < N))
 (lookK (es[(↑i : Int).toNat]?)
 fun e1 =>
 (cond (okRow [DV.int .i64 0, DV.int .i64 0, DV.int .i64 0, DV.int .i64 0, DV.int .i64 0, DV.int .i64 0, DV.int .i64 0] e1)
 (need (FSpec.D (fndS) [(.sla false 7 es), (.int .i64 ((cellA e1 0).toI))])
 (cond (fI (rowsA (DV.sla false 7 es)) (cellA e1 0).toI != (↑i : Int))
 (k .ret (St.of [(2, (.d (.bool false)))] [(24, .none)]))
 (k .nrm (St.of [(0, (.d (.sla false 7 es))), (5, (.d (.sla false 7 es))), (6, (.d (.int .i64 N))), (7, (.d (.int .i64 (IntKind.i64.wrap ((↑i : Int) + (1 : Int))))))] []))))
 none))
 (k (.ex 0) (St.of [(0, (.d (.sla false 7 es)))] []))) from by kernel_rfl).trans (by first | rfl | (simp only [decide_true, decide_false, eq_self, and_true, true_and, and_self, cond_true, cond_false, Nat.le_refl, Int.le_refl, Option.getD_some, Option.getD_none, Int.toNat_natCast, List.take_length, List.drop_zero, Nat.zero_add, List.nil_append, List.all_nil, List.append_nil, Bool.true_and, Bool.and_true, rowsA_sla, rowsA_sl, rowsA_nil, minus_zero, nat_le_cast, nat_nonneg, Option.isSome_some, Option.isSome_none, Bool.false_eq_true, false_and, and_false, if_true, if_false, implies_true, Int.toNat_zero, Bool.not_false, Bool.not_true, bne_self_eq_false]; done) | (simp only [decide_true, decide_false, eq_self, and_true, true_and, and_self, cond_true, cond_false, Nat.le_refl, Int.le_refl, Option.getD_some, Option.getD_none, Int.toNat_natCast, List.take_length, List.drop_zero, Nat.zero_add, List.nil_append, List.all_nil, List.append_nil, Bool.true_and, Bool.and_true, rowsA_sla, rowsA_sl, rowsA_nil, minus_zero, nat_le_cast, nat_nonneg, Option.isSome_some, Option.isSome_none, Bool.false_eq_true, false_and, and_false, if_true, if_false, implies_true, Int.toNat_zero, Bool.not_false, Bool.not_true, bne_self_eq_false]; rfl))
theorem s200 (L n : Nat) (es : List (List DV)) (i : Nat) (k : Kont) : LB tab spG lp L (n+4) h200 c20l0 (S200 (.sla false 7 es) i) k =
   (bif decide ((↑i : Int) < (↑es.length : Int)) then
 lookK es[i]? fun (e1 : List DV) =>
 bif
 okRow
 [DV.int .i64 0, DV.int .i64 0, DV.int .i64 0, DV.int .i64 0, DV.int .i64 0, DV.int .i64 0, DV.int .i64 0]
 e1 then
 need (fndS.D [DV.sla false 7 es, DV.int .i64 (cellA e1 0).toI])
 (bif decide ((↑i : Int) > (0 : Int)) then
 bif fI es (cellA e1 0).toI != (↑i : Int) then k Ex.ret (St.of [(2, AV.d (DV.bool false))] [])
 else
 bif decide ((0 : Int) ≤ IntKind.i64.wrap ((↑i : Int) - (1 : Int))) then
 lookK es[(IntKind.i64.wrap ((↑i : Int) - (1 : Int))).toNat]? fun (e8 : List DV) =>
 bif
 okRow
 [DV.int .i64 0, DV.int .i64 0, DV.int .i64 0, DV.int .i64 0, DV.int .i64 0, DV.int .i64 0, DV.int .i64 0]
 e8 then
 lookK es[i]? fun (e11 : List DV) =>
 bif
 okRow
 [DV.int .i64 0, DV.int .i64 0, DV.int .i64 0, DV.int .i64 0, DV.int .i64 0, DV.int .i64 0, DV.int .i64 0]
 e11 then
 bif
 !bif decide ((cellA e8 1).toI < (cellA e11 1).toI) then true
 else
 bif (cellA e8 1).toI == (cellA e11 1).toI then decide ((cellA e8 4).toI ≤ (cellA e11 4).toI)
 else false then
 k Ex.ret (St.of [(2, AV.d (DV.bool false))] [])
 else
 k Ex.nrm
 (St.of
 [(0, AV.d (DV.sla false 7 es)),
 ((3 : Nat), AV.d (DV.int .i64 (IntKind.i64.wrap ((↑i : Int) + (1 : Int)))))]
 [])
 else none
 else none
 else none
 else
 bif bif fI es (cellA e1 0).toI != (↑i : Int) then true else false then k Ex.ret (St.of [(2, AV.d (DV.bool false))] [])
 else
 k Ex.nrm
 (St.of [(0, AV.d (DV.sla false 7 es)), (3, AV.d (DV.int .i64 (IntKind.i64.wrap ((↑i : Int) + (1 : Int)))))] []))
 else none
 else k (Ex.ex (0 : Nat)) (St.of [(0, AV.d (DV.sla false 7 es))] [])) :=
  (show LB tab spG lp L (n+4) h200 c20l0 (S200 (.sla false 7 es) i) k =
 (cond (decide ((↑i : Int) < (↑es.length : Int)))
 (lookK (es[(↑i : Int).toNat]?)
 fun e1 =>
 (cond (okRow [DV.int .i64 0, DV.int .i64 0, DV.int .i64 0, DV.int .i64 0, DV.int .i64 0, DV.int .i64 0, DV.int .i64 0] e1)
 (need (FSpec.D (fndS) [(.sla false 7 es), (.int .i64 ((cellA e1 0).toI))])
 (cond (decide ((↑i : Int) > (0 : Int)))
 (cond (fI (rowsA (DV.sla false 7 es)) (cellA e1 0).toI != (↑i : Int))
 (k .ret (St.of [(2, (.d (.bool false)))] []))
 (cond (decide ((0 : Int) ≤ IntKind.i64.wrap ((↑i : Int) - (1 : Int))))
 (lookK (es[(IntKind.i64.wrap ((↑i : Int) - (1 : Int))).toNat]?)
 fun e8 =>
 (cond (okRow [DV.int .i64 0, DV.int .i64 0, DV.int .i64 0, DV.int .i64 0, DV.int .i64 0, DV.int .i64 0, DV.int .i64 0] e8)
 (lookK (es[(↑i : Int).toNat]?)
 fun e11 =>
 (cond (okRow [DV.int .i64 0, DV.int .i64 0, DV.int .i64 0, DV.int .i64 0, DV.int .i64 0, DV.int .i64 0, DV.int .i64 0] e11)
 (cond (!bif decide ((cellA e8 1).toI < (cellA e11 1).toI) then true else bif (cellA e8 1).toI == (cellA e11 1).toI then decide ((cellA e8 4).toI ≤ (cellA e11 4).toI) else false)
 (k .ret (St.of [(2, (.d (.bool false)))] []))
 (k .nrm (St.of [(0, (.d (.sla false 7 es))), (3, (.d (.int .i64 (IntKind.i64.wrap ((↑i : Int) + (1 : Int))))))] [])))
 none))
 none))
 none))
 (cond (bif fI (rowsA (DV.sla false 7 es)) (cellA e1 0).toI != (↑i : Int) then true else false)
 (k .ret (St.of [(2, (.d (.bool false)))] []))
 (k .nrm (St.of [(0, (.d (.sla false 7 es))), (3, (.d (.int .i64 (IntKind.i64.wrap ((↑i : Int) + (1 : Int))))))] [])))))
 none))
 (k (.ex 0) (St.of [(0, (.d (.sla false 7 es)))] []))) from by kernel_rfl).trans (by first | rfl | (simp only [decide_true, decide_false, eq_self, and_true, true_and, and_self, cond_true, cond_false, Nat.le_refl, Int.le_refl, Option.getD_some, Option.getD_none, Int.toNat_natCast, List.take_length, List.drop_zero, Nat.zero_add, List.nil_append, List.all_nil, List.append_nil, Bool.true_and, Bool.and_true, rowsA_sla, rowsA_sl, rowsA_nil, minus_zero, nat_le_cast, nat_nonneg, Option.isSome_some, Option.isSome_none, Bool.false_eq_true, false_and, and_false, if_true, if_false, implies_true, Int.toNat_zero, Bool.not_false, Bool.not_true, bne_self_eq_false]; done) | (simp only [decide_true, decide_false, eq_self, and_true, true_and, and_self, cond_true, cond_false, Nat.le_refl, Int.le_refl, Option.getD_some, Option.getD_none, Int.toNat_natCast, List.take_length, List.drop_zero, Nat.zero_add, List.nil_append, List.all_nil, List.append_nil, Bool.true_and, Bool.and_true, rowsA_sla, rowsA_sl, rowsA_nil, minus_zero, nat_le_cast, nat_nonneg, Option.isSome_some, Option.isSome_none, Bool.false_eq_true, false_and, and_false, if_true, if_false, implies_true, Int.toNat_zero, Bool.not_false, Bool.not_true, bne_self_eq_false]; rfl))
theorem s380 (L n : Nat) (es : List (List DV)) (i : Nat) (k : Kont) : LB tab spO lp L (n+4) h380 c38l0 (S380 (.sla false 7 es) i) k =
   (bif decide ((↑i : Int) > (0 : Int)) then
 lookK es[i]? fun (e1 : List DV) =>
 bif
 okRow
 [DV.int .i64 0, DV.int .i64 0, DV.int .i64 0, DV.int .i64 0, DV.int .i64 0, DV.int .i64 0, DV.int .i64 0]
 e1 then
 bif decide ((0 : Int) ≤ IntKind.i64.wrap ((↑i : Int) - (1 : Int))) then
 lookK es[(IntKind.i64.wrap ((↑i : Int) - (1 : Int))).toNat]? fun (e5 : List DV) =>
 bif
 okRow
 [DV.int .i64 0, DV.int .i64 0, DV.int .i64 0, DV.int .i64 0, DV.int .i64 0, DV.int .i64 0, DV.int .i64 0]
 e5 then
 need
 (ordS.D
 [DV.agg
 [DV.int .i64 (cellA e1 0).toI, DV.int .i64 (cellA e1 1).toI, DV.int .i64 (cellA e1 2).toI, DV.int .i64 (cellA e1 3).toI, DV.int .i64 (cellA e1 4).toI, DV.int .i64 (cellA e1 5).toI, DV.int .i64 (cellA e1 6).toI],
 DV.agg
 [DV.int .i64 (cellA e5 0).toI, DV.int .i64 (cellA e5 1).toI, DV.int .i64 (cellA e5 2).toI, DV.int .i64 (cellA e5 3).toI, DV.int .i64 (cellA e5 4).toI, DV.int .i64 (cellA e5 5).toI, DV.int .i64 (cellA e5 6).toI]])
 (bif
 decide
 (ordI
 [DV.int .i64 (cellA e1 0).toI, DV.int .i64 (cellA e1 1).toI, DV.int .i64 (cellA e1 2).toI, DV.int .i64 (cellA e1 3).toI, DV.int .i64 (cellA e1 4).toI, DV.int .i64 (cellA e1 5).toI, DV.int .i64 (cellA e1 6).toI]
 [DV.int .i64 (cellA e5 0).toI, DV.int .i64 (cellA e5 1).toI, DV.int .i64 (cellA e5 2).toI, DV.int .i64 (cellA e5 3).toI, DV.int .i64 (cellA e5 4).toI, DV.int .i64 (cellA e5 5).toI, DV.int .i64 (cellA e5 6).toI] <
 (0 : Int)) then
 k Ex.ret (St.of [(4, AV.d (DV.bool false))] [])
 else
 k Ex.nrm
 (St.of
 [(0, AV.d (DV.sla false 7 es)), (1, AV.d (DV.func (39 : FuncId) [])),
 ((5 : Nat), AV.d (DV.int .i64 (IntKind.i64.wrap ((↑i : Int) - (1 : Int)))))]
 []))
 else none
 else none
 else none
 else k (Ex.ex (0 : Nat)) (St.of [] [])) :=
  (show LB tab spO lp L (n+4) h380 c38l0 (S380 (.sla false 7 es) i) k =
 (cond (decide ((↑i : Int) > (0 : Int)))
 (lookK (es[(↑i : Int).toNat]?)
 fun e1 =>
 (cond (okRow [DV.int .i64 0, DV.int .i64 0, DV.int .i64 0, DV.int .i64 0, DV.int .i64 0, DV.int .i64 0, DV.int .i64 0] e1)
 (cond (decide ((0 : Int) ≤ IntKind.i64.wrap ((↑i : Int) - (1 : Int))))
 (lookK (es[(IntKind.i64.wrap ((↑i : Int) - (1 : Int))).toNat]?)
 fun e5 =>
 (cond (okRow [DV.int .i64 0, DV.int .i64 0, DV.int .i64 0, DV.int .i64 0, DV.int .i64 0, DV.int .i64 0, DV.int .i64 0] e5)
 (need (FSpec.D (ordS) [(.agg [(.int .i64 ((cellA e1 0).toI)), (.int .i64 ((cellA e1 1).toI)), (.int .i64 ((cellA e1 2).toI)), (.int .i64 ((cellA e1 3).toI)), (.int .i64 ((cellA e1 4).toI)), (.int .i64 ((cellA e1 5).toI)), (.int .i64 ((cellA e1 6).toI))]), (.agg [(.int .i64 ((cellA e5 0).toI)), (.int .i64 ((cellA e5 1).toI)), (.int .i64 ((cellA e5 2).toI)), (.int .i64 ((cellA e5 3).toI)), (.int .i64 ((cellA e5 4).toI)), (.int .i64 ((cellA e5 5).toI)), (.int .i64 ((cellA e5 6).toI))])])
 (cond (decide (ordI [DV.int .i64 (cellA e1 0).toI, DV.int .i64 (cellA e1 1).toI, DV.int .i64 (cellA e1 2).toI, DV.int .i64 (cellA e1 3).toI, DV.int .i64 (cellA e1 4).toI, DV.int .i64 (cellA e1 5).toI, DV.int .i64 (cellA e1 6).toI] [DV.int .i64 (cellA e5 0).toI, DV.int .i64 (cellA e5 1).toI, DV.int .i64 (cellA e5 2).toI, DV.int .i64 (cellA e5 3).toI, DV.int .i64 (cellA e5 4).toI, DV.int .i64 (cellA e5 5).toI, DV.int .i64 (cellA e5 6).toI] < (0 : Int)))
 (k .ret (St.of [(4, (.d (.bool false)))] []))
 (k .nrm (St.of [(0, (.d (.sla false 7 es))), (1, (.d (.func 39 []))), (5, (.d (.int .i64 (IntKind.i64.wrap ((↑i : Int) - (1 : Int))))))] []))))
 none))
 none)
 none))
 (k (.ex 0) (St.of [] []))) from by kernel_rfl).trans (by first | rfl | (simp only [decide_true, decide_false, eq_self, and_true, true_and, and_self, cond_true, cond_false, Nat.le_refl, Int.le_refl, Option.getD_some, Option.getD_none, Int.toNat_natCast, List.take_length, List.drop_zero, Nat.zero_add, List.nil_append, List.all_nil, List.append_nil, Bool.true_and, Bool.and_true, rowsA_sla, rowsA_sl, rowsA_nil, minus_zero, nat_le_cast, nat_nonneg, Option.isSome_some, Option.isSome_none, Bool.false_eq_true, false_and, and_false, if_true, if_false, implies_true, Int.toNat_zero, Bool.not_false, Bool.not_true, bne_self_eq_false]; done) | (simp only [decide_true, decide_false, eq_self, and_true, true_and, and_self, cond_true, cond_false, Nat.le_refl, Int.le_refl, Option.getD_some, Option.getD_none, Int.toNat_natCast, List.take_length, List.drop_zero, Nat.zero_add, List.nil_append, List.all_nil, List.append_nil, Bool.true_and, Bool.and_true, rowsA_sla, rowsA_sl, rowsA_nil, minus_zero, nat_le_cast, nat_nonneg, Option.isSome_some, Option.isSome_none, Bool.false_eq_true, false_and, and_false, if_true, if_false, implies_true, Int.toNat_zero, Bool.not_false, Bool.not_true, bne_self_eq_false]; rfl))
theorem s380n (L n : Nat) (es : List (List DV)) (k : Kont) : LB tab spO lp L (n+4) h380 c38l0 (S380 (.sla false 7 es) (-1)) k =
   (k (Ex.ex (0 : Nat)) (St.of [] [])) :=
  (show LB tab spO lp L (n+4) h380 c38l0 (S380 (.sla false 7 es) (-1)) k =
 (k (.ex 0) (St.of [] [])) from by kernel_rfl).trans (by first | rfl | (simp only [decide_true, decide_false, eq_self, and_true, true_and, and_self, cond_true, cond_false, Nat.le_refl, Int.le_refl, Option.getD_some, Option.getD_none, Int.toNat_natCast, List.take_length, List.drop_zero, Nat.zero_add, List.nil_append, List.all_nil, List.append_nil, Bool.true_and, Bool.and_true, rowsA_sla, rowsA_sl, rowsA_nil, minus_zero, nat_le_cast, nat_nonneg, Option.isSome_some, Option.isSome_none, Bool.false_eq_true, false_and, and_false, if_true, if_false, implies_true, Int.toNat_zero, Bool.not_false, Bool.not_true, bne_self_eq_false]; done) | (simp only [decide_true, decide_false, eq_self, and_true, true_and, and_self, cond_true, cond_false, Nat.le_refl, Int.le_refl, Option.getD_some, Option.getD_none, Int.toNat_natCast, List.take_length, List.drop_zero, Nat.zero_add, List.nil_append, List.all_nil, List.append_nil, Bool.true_and, Bool.and_true, rowsA_sla, rowsA_sl, rowsA_nil, minus_zero, nat_le_cast, nat_nonneg, Option.isSome_some, Option.isSome_none, Bool.false_eq_true, false_and, and_false, if_true, if_false, implies_true, Int.toNat_zero, Bool.not_false, Bool.not_true, bne_self_eq_false]; rfl))
theorem t38 (L n : Nat) (es : List (List DV)) : FK tab spO lp L (n+8) 38 [.sla false 7 es, .func 39 []] =
   (bif sortB es then
 need
 (LoopOk (LB tab spO lp L (n + (8 : Nat)) h380 c38l0)
 (St.of
 [(0, AV.d (DV.sla false 7 es)), (1, AV.d (DV.func (39 : FuncId) [])),
 ((5 : Nat), AV.d (DV.int .i64 (IntKind.i64.wrap ((↑es.length : Int) - (1 : Int)))))]
 [])
 (Ex.ex (0 : Nat), St.of [] []))
 (some (DV.bool true))
 else
 need
 (LoopOk (LB tab spO lp L (n + (8 : Nat)) h380 c38l0)
 (St.of
 [(0, AV.d (DV.sla false 7 es)), (1, AV.d (DV.func (39 : FuncId) [])),
 ((5 : Nat), AV.d (DV.int .i64 (IntKind.i64.wrap ((↑es.length : Int) - (1 : Int)))))]
 [])
 (Ex.ret, St.of [(4, AV.d (DV.bool false))] []))
 (some (DV.bool false))) :=
  (show FK tab spO lp L (n+8) 38 [.sla false 7 es, .func 39 []] =
 (cond (sortB (rowsA (DV.sla false 7 es)))
 (need (LoopOk (LB tab spO lp L (n + (8 : Nat)) h380 c38l0) (St.of [(0, (.d (.sla false 7 es))), (1, (.d (.func 39 []))), (5, (.d (.int .i64 (IntKind.i64.wrap ((↑es.length : Int) - (1 : Int))))))] []) ((.ex 0), (St.of [] [])))
 (some (.bool true)))
 (need (LoopOk (LB tab spO lp L (n + (8 : Nat)) h380 c38l0) (St.of [(0, (.d (.sla false 7 es))), (1, (.d (.func 39 []))), (5, (.d (.int .i64 (IntKind.i64.wrap ((↑es.length : Int) - (1 : Int))))))] []) (.ret, (St.of [(4, (.d (.bool false)))] [])))
 (some (.bool false)))) from by kernel_rfl).trans (by first | rfl | (simp only [decide_true, decide_false, eq_self, and_true, true_and, and_self, cond_true, cond_false, Nat.le_refl, Int.le_refl, Option.getD_some, Option.getD_none, Int.toNat_natCast, List.take_length, List.drop_zero, Nat.zero_add, List.nil_append, List.all_nil, List.append_nil, Bool.true_and, Bool.and_true, rowsA_sla, rowsA_sl, rowsA_nil, minus_zero, nat_le_cast, nat_nonneg, Option.isSome_some, Option.isSome_none, Bool.false_eq_true, false_and, and_false, if_true, if_false, implies_true, Int.toNat_zero, Bool.not_false, Bool.not_true, bne_self_eq_false]; done) | (simp only [decide_true, decide_false, eq_self, and_true, true_and, and_self, cond_true, cond_false, Nat.le_refl, Int.le_refl, Option.getD_some, Option.getD_none, Int.toNat_natCast, List.take_length, List.drop_zero, Nat.zero_add, List.nil_append, List.all_nil, List.append_nil, Bool.true_and, Bool.and_true, rowsA_sla, rowsA_sl, rowsA_nil, minus_zero, nat_le_cast, nat_nonneg, Option.isSome_some, Option.isSome_none, Bool.false_eq_true, false_and, and_false, if_true, if_false, implies_true, Int.toNat_zero, Bool.not_false, Bool.not_true, bne_self_eq_false]; rfl))
theorem t19 (L n : Nat) (es : List (List DV)) : FK tab spH lp L (n+8) 19 [.sla false 7 es] =
   (bif uniF es (0 : Nat) es then
 need
 (LoopOk (LB tab spH lp L (n + (8 : Nat)) h190 c19l0)
 (St.of
 [(0, AV.d (DV.sla false 7 es)), (5, AV.d (DV.sla false 7 es)),
 ((6 : Nat), AV.d (DV.int .i64 (↑es.length : Int))), (7, AV.d (DV.int .i64 0))]
 [])
 (Ex.ex (0 : Nat), St.of [(0, AV.d (DV.sla false 7 es))] []))
 (bif decide ((↑es.length : Int) ≤ (40 : Int)) then need (srtS.D [DV.sla false 7 es, DV.func (39 : FuncId) []]) (some (DV.bool (sortB es)))
 else some (DV.bool false))
 else
 need
 (LoopOk (LB tab spH lp L (n + (8 : Nat)) h190 c19l0)
 (St.of
 [(0, AV.d (DV.sla false 7 es)), (5, AV.d (DV.sla false 7 es)),
 ((6 : Nat), AV.d (DV.int .i64 (↑es.length : Int))), (7, AV.d (DV.int .i64 0))]
 [])
 (Ex.ret, St.of [(2, AV.d (DV.bool false))] [(24, none)]))
 (some (DV.bool false))) :=
  (show FK tab spH lp L (n+8) 19 [.sla false 7 es] =
 (cond (uniF (rowsA (DV.sla false 7 es)) (0 : Nat) (rowsA (DV.sla false 7 es)))
 (need (LoopOk (LB tab spH lp L (n + (8 : Nat)) h190 c19l0) (St.of [(0, (.d (.sla false 7 es))), (5, (.d (.sla false 7 es))), (6, (.d (.int .i64 ((↑es.length : Int))))), (7, (.d (.int .i64 ((0 : Int)))))] []) ((.ex 0), (St.of [(0, (.d (.sla false 7 es)))] [])))
 (cond (decide ((↑es.length : Int) ≤ (40 : Int)))
 (need (FSpec.D (srtS) [(.sla false 7 es), (.func 39 [])])
 (some (.bool (sortB (rowsA (DV.sla false 7 es))))))
 (some (.bool false))))
 (need (LoopOk (LB tab spH lp L (n + (8 : Nat)) h190 c19l0) (St.of [(0, (.d (.sla false 7 es))), (5, (.d (.sla false 7 es))), (6, (.d (.int .i64 ((↑es.length : Int))))), (7, (.d (.int .i64 ((0 : Int)))))] []) (.ret, (St.of [(2, (.d (.bool false)))] [(24, .none)])))
 (some (.bool false)))) from by kernel_rfl).trans (by first | rfl | (simp only [decide_true, decide_false, eq_self, and_true, true_and, and_self, cond_true, cond_false, Nat.le_refl, Int.le_refl, Option.getD_some, Option.getD_none, Int.toNat_natCast, List.take_length, List.drop_zero, Nat.zero_add, List.nil_append, List.all_nil, List.append_nil, Bool.true_and, Bool.and_true, rowsA_sla, rowsA_sl, rowsA_nil, minus_zero, nat_le_cast, nat_nonneg, Option.isSome_some, Option.isSome_none, Bool.false_eq_true, false_and, and_false, if_true, if_false, implies_true, Int.toNat_zero, Bool.not_false, Bool.not_true, bne_self_eq_false]; done) | (simp only [decide_true, decide_false, eq_self, and_true, true_and, and_self, cond_true, cond_false, Nat.le_refl, Int.le_refl, Option.getD_some, Option.getD_none, Int.toNat_natCast, List.take_length, List.drop_zero, Nat.zero_add, List.nil_append, List.all_nil, List.append_nil, Bool.true_and, Bool.and_true, rowsA_sla, rowsA_sl, rowsA_nil, minus_zero, nat_le_cast, nat_nonneg, Option.isSome_some, Option.isSome_none, Bool.false_eq_true, false_and, and_false, if_true, if_false, implies_true, Int.toNat_zero, Bool.not_false, Bool.not_true, bne_self_eq_false]; rfl))
theorem t20 (L n : Nat) (es : List (List DV)) : FK tab spG lp L (n+8) 20 [.sla false 7 es] =
   (bif uniF es (0 : Nat) es && sortB es then
 need
 (LoopOk (LB tab spG lp L (n + (8 : Nat)) h200 c20l0)
 (St.of [(0, AV.d (DV.sla false 7 es)), (3, AV.d (DV.int .i64 0))] [])
 (Ex.ex (0 : Nat), St.of [(0, AV.d (DV.sla false 7 es))] []))
 (some (DV.bool (decide ((↑es.length : Int) ≤ (40 : Int)))))
 else
 need
 (LoopOk (LB tab spG lp L (n + (8 : Nat)) h200 c20l0)
 (St.of [(0, AV.d (DV.sla false 7 es)), (3, AV.d (DV.int .i64 0))] [])
 (Ex.ret, St.of [(2, AV.d (DV.bool false))] []))
 (some (DV.bool false))) :=
  (show FK tab spG lp L (n+8) 20 [.sla false 7 es] =
 (cond (uniF (rowsA (DV.sla false 7 es)) (0 : Nat) (rowsA (DV.sla false 7 es)) && sortB (rowsA (DV.sla false 7 es)))
 (need (LoopOk (LB tab spG lp L (n + (8 : Nat)) h200 c20l0) (St.of [(0, (.d (.sla false 7 es))), (3, (.d (.int .i64 ((0 : Int)))))] []) ((.ex 0), (St.of [(0, (.d (.sla false 7 es)))] [])))
 (some (.bool (decide ((↑es.length : Int) ≤ (40 : Int))))))
 (need (LoopOk (LB tab spG lp L (n + (8 : Nat)) h200 c20l0) (St.of [(0, (.d (.sla false 7 es))), (3, (.d (.int .i64 ((0 : Int)))))] []) (.ret, (St.of [(2, (.d (.bool false)))] [])))
 (some (.bool false)))) from by kernel_rfl).trans (by first | rfl | (simp only [decide_true, decide_false, eq_self, and_true, true_and, and_self, cond_true, cond_false, Nat.le_refl, Int.le_refl, Option.getD_some, Option.getD_none, Int.toNat_natCast, List.take_length, List.drop_zero, Nat.zero_add, List.nil_append, List.all_nil, List.append_nil, Bool.true_and, Bool.and_true, rowsA_sla, rowsA_sl, rowsA_nil, minus_zero, nat_le_cast, nat_nonneg, Option.isSome_some, Option.isSome_none, Bool.false_eq_true, false_and, and_false, if_true, if_false, implies_true, Int.toNat_zero, Bool.not_false, Bool.not_true, bne_self_eq_false]; done) | (simp only [decide_true, decide_false, eq_self, and_true, true_and, and_self, cond_true, cond_false, Nat.le_refl, Int.le_refl, Option.getD_some, Option.getD_none, Int.toNat_natCast, List.take_length, List.drop_zero, Nat.zero_add, List.nil_append, List.all_nil, List.append_nil, Bool.true_and, Bool.and_true, rowsA_sla, rowsA_sl, rowsA_nil, minus_zero, nat_le_cast, nat_nonneg, Option.isSome_some, Option.isSome_none, Bool.false_eq_true, false_and, and_false, if_true, if_false, implies_true, Int.toNat_zero, Bool.not_false, Bool.not_true, bne_self_eq_false]; rfl))
theorem s220 (L n : Nat) (es : List (List DV)) (a0 a1 a2 a3 a4 a5 a6 : Int) (i : Nat) (k : Kont) : LB tab spQ lp (L+4) (n+4) h220 c22l0 (S220 (.sl .ro 7 es) [.int .i64 a0, .int .i64 a1, .int .i64 a2, .int .i64 a3, .int .i64 a4, .int .i64 a5, .int .i64 a6] i) k =
   (bif decide ((↑i : Int) < (↑es.length : Int)) then
 lookK es[i]? fun (e1 : List DV) =>
 bif
 okRow
 [DV.int .i64 0, DV.int .i64 0, DV.int .i64 0, DV.int .i64 0, DV.int .i64 0, DV.int .i64 0, DV.int .i64 0]
 e1 then
 bif decide ((cellA e1 1).toI < a1) then
 bif decide ((cellA e1 4).toI < a4) then
 k Ex.nrm
 (St.of
 [(0, AV.d (DV.sl SK.ro 7 es)),
 ((3 : Nat),
 AV.d
 (DV.rptr
 [DV.int .i64 a0, DV.int .i64 a1, DV.int .i64 a2, DV.int .i64 a3, DV.int .i64 a4, DV.int .i64 a5, DV.int .i64 a6]
 (0 : Nat))),
 ((6 : Nat), AV.d (DV.int .i64 (IntKind.i64.wrap ((↑i : Int) + (1 : Int)))))]
 [(3, none)])
 else
 bif decide ((cellA e1 4).toI > a4) then
 k Ex.nrm
 (St.of
 [(0, AV.d (DV.sl SK.ro 7 es)),
 ((3 : Nat),
 AV.d
 (DV.rptr
 [DV.int .i64 a0, DV.int .i64 a1, DV.int .i64 a2, DV.int .i64 a3, DV.int .i64 a4, DV.int .i64 a5, DV.int .i64 a6]
 (0 : Nat))),
 ((6 : Nat), AV.d (DV.int .i64 (IntKind.i64.wrap ((↑i : Int) + (1 : Int)))))]
 [(3, none)])
 else
 k Ex.nrm
 (St.of
 [(0, AV.d (DV.sl SK.ro 7 es)),
 ((3 : Nat),
 AV.d
 (DV.rptr
 [DV.int .i64 a0, DV.int .i64 a1, DV.int .i64 a2, DV.int .i64 a3, DV.int .i64 a4, DV.int .i64 a5, DV.int .i64 a6]
 (0 : Nat))),
 ((6 : Nat), AV.d (DV.int .i64 (IntKind.i64.wrap ((↑i : Int) + (1 : Int)))))]
 [(3, none)])
 else
 bif decide ((cellA e1 1).toI > a1) then
 bif decide ((cellA e1 4).toI < a4) then
 k (Ex.ex (1 : Nat))
 (St.of
 [(0, AV.d (DV.sl SK.ro 7 es)),
 ((3 : Nat),
 AV.d
 (DV.rptr
 [DV.int .i64 a0, DV.int .i64 a1, DV.int .i64 a2, DV.int .i64 a3, DV.int .i64 a4, DV.int .i64 a5, DV.int .i64 a6]
 (0 : Nat))),
 ((6 : Nat), AV.d (DV.int .i64 (↑i : Int)))]
 [(3, none)])
 else
 bif decide ((cellA e1 4).toI > a4) then
 k (Ex.ex (1 : Nat))
 (St.of
 [(0, AV.d (DV.sl SK.ro 7 es)),
 ((3 : Nat),
 AV.d
 (DV.rptr
 [DV.int .i64 a0, DV.int .i64 a1, DV.int .i64 a2, DV.int .i64 a3, DV.int .i64 a4, DV.int .i64 a5, DV.int .i64 a6]
 (0 : Nat))),
 ((6 : Nat), AV.d (DV.int .i64 (↑i : Int)))]
 [(3, none)])
 else
 k (Ex.ex (1 : Nat))
 (St.of
 [(0, AV.d (DV.sl SK.ro 7 es)),
 ((3 : Nat),
 AV.d
 (DV.rptr
 [DV.int .i64 a0, DV.int .i64 a1, DV.int .i64 a2, DV.int .i64 a3, DV.int .i64 a4, DV.int .i64 a5, DV.int .i64 a6]
 (0 : Nat))),
 ((6 : Nat), AV.d (DV.int .i64 (↑i : Int)))]
 [(3, none)])
 else
 bif decide ((cellA e1 4).toI < a4) then
 k Ex.nrm
 (St.of
 [(0, AV.d (DV.sl SK.ro 7 es)),
 ((3 : Nat),
 AV.d
 (DV.rptr
 [DV.int .i64 a0, DV.int .i64 a1, DV.int .i64 a2, DV.int .i64 a3, DV.int .i64 a4, DV.int .i64 a5, DV.int .i64 a6]
 (0 : Nat))),
 ((6 : Nat), AV.d (DV.int .i64 (IntKind.i64.wrap ((↑i : Int) + (1 : Int)))))]
 [(3, none)])
 else
 bif decide ((cellA e1 4).toI > a4) then
 k (Ex.ex (1 : Nat))
 (St.of
 [(0, AV.d (DV.sl SK.ro 7 es)),
 ((3 : Nat),
 AV.d
 (DV.rptr
 [DV.int .i64 a0, DV.int .i64 a1, DV.int .i64 a2, DV.int .i64 a3, DV.int .i64 a4, DV.int .i64 a5, DV.int .i64 a6]
 (0 : Nat))),
 ((6 : Nat), AV.d (DV.int .i64 (↑i : Int)))]
 [(3, none)])
 else
 k Ex.nrm
 (St.of
 [(0, AV.d (DV.sl SK.ro 7 es)),
 ((3 : Nat),
 AV.d
 (DV.rptr
 [DV.int .i64 a0, DV.int .i64 a1, DV.int .i64 a2, DV.int .i64 a3, DV.int .i64 a4, DV.int .i64 a5, DV.int .i64 a6]
 (0 : Nat))),
 ((6 : Nat), AV.d (DV.int .i64 (IntKind.i64.wrap ((↑i : Int) + (1 : Int)))))]
 [(3, none)])
 else none
 else
 k (Ex.ex (1 : Nat))
 (St.of
 [(0, AV.d (DV.sl SK.ro 7 es)),
 ((3 : Nat),
 AV.d
 (DV.rptr
 [DV.int .i64 a0, DV.int .i64 a1, DV.int .i64 a2, DV.int .i64 a3, DV.int .i64 a4, DV.int .i64 a5, DV.int .i64 a6]
 (0 : Nat))),
 ((6 : Nat), AV.d (DV.int .i64 (↑i : Int)))]
 [(3, none)])) :=
  (show LB tab spQ lp (L+4) (n+4) h220 c22l0 (S220 (.sl .ro 7 es) [.int .i64 a0, .int .i64 a1, .int .i64 a2, .int .i64 a3, .int .i64 a4, .int .i64 a5, .int .i64 a6] i) k =
 (cond (decide ((↑i : Int) < (↑es.length : Int)))
 (lookK (es[(↑i : Int).toNat]?)
 fun e1 =>
 (cond (okRow [DV.int .i64 0, DV.int .i64 0, DV.int .i64 0, DV.int .i64 0, DV.int .i64 0, DV.int .i64 0, DV.int .i64 0] e1)
 (cond ((cellA e1 1).toI != (cellA e1 1).toI)
 (cond (a1 != a1)
 (cond ((cellA e1 4).toI != (cellA e1 4).toI)
 (cond (a4 != a4)
 (k .nrm (St.of [(0, (.d (.sl (SK.ro) 7 es))), (3, (.d (.rptr [(.int .i64 a0), (.int .i64 a1), (.int .i64 a2), (.int .i64 a3), (.int .i64 a4), (.int .i64 a5), (.int .i64 a6)] 0))), (6, (.d (.int .i64 (IntKind.i64.wrap ((↑i : Int) + (1 : Int))))))] [(3, .none)]))
 (k .nrm (St.of [(0, (.d (.sl (SK.ro) 7 es))), (3, (.d (.rptr [(.int .i64 a0), (.int .i64 a1), (.int .i64 a2), (.int .i64 a3), (.int .i64 a4), (.int .i64 a5), (.int .i64 a6)] 0))), (6, (.d (.int .i64 (IntKind.i64.wrap ((↑i : Int) + (1 : Int))))))] [(3, .none)])))
 (cond (a4 != a4)
 (k (.ex 1) (St.of [(0, (.d (.sl (SK.ro) 7 es))), (3, (.d (.rptr [(.int .i64 a0), (.int .i64 a1), (.int .i64 a2), (.int .i64 a3), (.int .i64 a4), (.int .i64 a5), (.int .i64 a6)] 0))), (6, (.d (.int .i64 ((↑i : Int)))))] [(3, .none)]))
 (cond (decide ((cellA e1 4).toI < a4))
 (k .nrm (St.of [(0, (.d (.sl (SK.ro) 7 es))), (3, (.d (.rptr [(.int .i64 a0), (.int .i64 a1), (.int .i64 a2), (.int .i64 a3), (.int .i64 a4), (.int .i64 a5), (.int .i64 a6)] 0))), (6, (.d (.int .i64 (IntKind.i64.wrap ((↑i : Int) + (1 : Int))))))] [(3, .none)]))
 (cond (decide ((cellA e1 4).toI > a4))
 (k (.ex 1) (St.of [(0, (.d (.sl (SK.ro) 7 es))), (3, (.d (.rptr [(.int .i64 a0), (.int .i64 a1), (.int .i64 a2), (.int .i64 a3), (.int .i64 a4), (.int .i64 a5), (.int .i64 a6)] 0))), (6, (.d (.int .i64 ((↑i : Int)))))] [(3, .none)]))
 (k .nrm (St.of [(0, (.d (.sl (SK.ro) 7 es))), (3, (.d (.rptr [(.int .i64 a0), (.int .i64 a1), (.int .i64 a2), (.int .i64 a3), (.int .i64 a4), (.int .i64 a5), (.int .i64 a6)] 0))), (6, (.d (.int .i64 (IntKind.i64.wrap ((↑i : Int) + (1 : Int))))))] [(3, .none)]))))))
 (cond ((cellA e1 4).toI != (cellA e1 4).toI)
 (cond (a4 != a4)
 (k .nrm (St.of [(0, (.d (.sl (SK.ro) 7 es))), (3, (.d (.rptr [(.int .i64 a0), (.int .i64 a1), (.int .i64 a2), (.int .i64 a3), (.int .i64 a4), (.int .i64 a5), (.int .i64 a6)] 0))), (6, (.d (.int .i64 (IntKind.i64.wrap ((↑i : Int) + (1 : Int))))))] [(3, .none)]))
 (k .nrm (St.of [(0, (.d (.sl (SK.ro) 7 es))), (3, (.d (.rptr [(.int .i64 a0), (.int .i64 a1), (.int .i64 a2), (.int .i64 a3), (.int .i64 a4), (.int .i64 a5), (.int .i64 a6)] 0))), (6, (.d (.int .i64 (IntKind.i64.wrap ((↑i : Int) + (1 : Int))))))] [(3, .none)])))
 (cond (a4 != a4)
 (k .nrm (St.of [(0, (.d (.sl (SK.ro) 7 es))), (3, (.d (.rptr [(.int .i64 a0), (.int .i64 a1), (.int .i64 a2), (.int .i64 a3), (.int .i64 a4), (.int .i64 a5), (.int .i64 a6)] 0))), (6, (.d (.int .i64 (IntKind.i64.wrap ((↑i : Int) + (1 : Int))))))] [(3, .none)]))
 (cond (decide ((cellA e1 4).toI < a4))
 (k .nrm (St.of [(0, (.d (.sl (SK.ro) 7 es))), (3, (.d (.rptr [(.int .i64 a0), (.int .i64 a1), (.int .i64 a2), (.int .i64 a3), (.int .i64 a4), (.int .i64 a5), (.int .i64 a6)] 0))), (6, (.d (.int .i64 (IntKind.i64.wrap ((↑i : Int) + (1 : Int))))))] [(3, .none)]))
 (cond (decide ((cellA e1 4).toI > a4))
 (k .nrm (St.of [(0, (.d (.sl (SK.ro) 7 es))), (3, (.d (.rptr [(.int .i64 a0), (.int .i64 a1), (.int .i64 a2), (.int .i64 a3), (.int .i64 a4), (.int .i64 a5), (.int .i64 a6)] 0))), (6, (.d (.int .i64 (IntKind.i64.wrap ((↑i : Int) + (1 : Int))))))] [(3, .none)]))
 (k .nrm (St.of [(0, (.d (.sl (SK.ro) 7 es))), (3, (.d (.rptr [(.int .i64 a0), (.int .i64 a1), (.int .i64 a2), (.int .i64 a3), (.int .i64 a4), (.int .i64 a5), (.int .i64 a6)] 0))), (6, (.d (.int .i64 (IntKind.i64.wrap ((↑i : Int) + (1 : Int))))))] [(3, .none)])))))))
 (cond (a1 != a1)
 (cond ((cellA e1 4).toI != (cellA e1 4).toI)
 (cond (a4 != a4)
 (k (.ex 1) (St.of [(0, (.d (.sl (SK.ro) 7 es))), (3, (.d (.rptr [(.int .i64 a0), (.int .i64 a1), (.int .i64 a2), (.int .i64 a3), (.int .i64 a4), (.int .i64 a5), (.int .i64 a6)] 0))), (6, (.d (.int .i64 ((↑i : Int)))))] [(3, .none)]))
 (k (.ex 1) (St.of [(0, (.d (.sl (SK.ro) 7 es))), (3, (.d (.rptr [(.int .i64 a0), (.int .i64 a1), (.int .i64 a2), (.int .i64 a3), (.int .i64 a4), (.int .i64 a5), (.int .i64 a6)] 0))), (6, (.d (.int .i64 ((↑i : Int)))))] [(3, .none)])))
 (cond (a4 != a4)
 (k (.ex 1) (St.of [(0, (.d (.sl (SK.ro) 7 es))), (3, (.d (.rptr [(.int .i64 a0), (.int .i64 a1), (.int .i64 a2), (.int .i64 a3), (.int .i64 a4), (.int .i64 a5), (.int .i64 a6)] 0))), (6, (.d (.int .i64 ((↑i : Int)))))] [(3, .none)]))
 (cond (decide ((cellA e1 4).toI < a4))
 (k (.ex 1) (St.of [(0, (.d (.sl (SK.ro) 7 es))), (3, (.d (.rptr [(.int .i64 a0), (.int .i64 a1), (.int .i64 a2), (.int .i64 a3), (.int .i64 a4), (.int .i64 a5), (.int .i64 a6)] 0))), (6, (.d (.int .i64 ((↑i : Int)))))] [(3, .none)]))
 (cond (decide ((cellA e1 4).toI > a4))
 (k (.ex 1) (St.of [(0, (.d (.sl (SK.ro) 7 es))), (3, (.d (.rptr [(.int .i64 a0), (.int .i64 a1), (.int .i64 a2), (.int .i64 a3), (.int .i64 a4), (.int .i64 a5), (.int .i64 a6)] 0))), (6, (.d (.int .i64 ((↑i : Int)))))] [(3, .none)]))
 (k (.ex 1) (St.of [(0, (.d (.sl (SK.ro) 7 es))), (3, (.d (.rptr [(.int .i64 a0), (.int .i64 a1), (.int .i64 a2), (.int .i64 a3), (.int .i64 a4), (.int .i64 a5), (.int .i64 a6)] 0))), (6, (.d (.int .i64 ((↑i : Int)))))] [(3, .none)]))))))
 (cond (decide ((cellA e1 1).toI < a1))
 (cond ((cellA e1 4).toI != (cellA e1 4).toI)
 (cond (a4 != a4)
 (k .nrm (St.of [(0, (.d (.sl (SK.ro) 7 es))), (3, (.d (.rptr [(.int .i64 a0), (.int .i64 a1), (.int .i64 a2), (.int .i64 a3), (.int .i64 a4), (.int .i64 a5), (.int .i64 a6)] 0))), (6, (.d (.int .i64 (IntKind.i64.wrap ((↑i : Int) + (1 : Int))))))] [(3, .none)]))
 (k .nrm (St.of [(0, (.d (.sl (SK.ro) 7 es))), (3, (.d (.rptr [(.int .i64 a0), (.int .i64 a1), (.int .i64 a2), (.int .i64 a3), (.int .i64 a4), (.int .i64 a5), (.int .i64 a6)] 0))), (6, (.d (.int .i64 (IntKind.i64.wrap ((↑i : Int) + (1 : Int))))))] [(3, .none)])))
 (cond (a4 != a4)
 (k .nrm (St.of [(0, (.d (.sl (SK.ro) 7 es))), (3, (.d (.rptr [(.int .i64 a0), (.int .i64 a1), (.int .i64 a2), (.int .i64 a3), (.int .i64 a4), (.int .i64 a5), (.int .i64 a6)] 0))), (6, (.d (.int .i64 (IntKind.i64.wrap ((↑i : Int) + (1 : Int))))))] [(3, .none)]))
 (cond (decide ((cellA e1 4).toI < a4))
 (k .nrm (St.of [(0, (.d (.sl (SK.ro) 7 es))), (3, (.d (.rptr [(.int .i64 a0), (.int .i64 a1), (.int .i64 a2), (.int .i64 a3), (.int .i64 a4), (.int .i64 a5), (.int .i64 a6)] 0))), (6, (.d (.int .i64 (IntKind.i64.wrap ((↑i : Int) + (1 : Int))))))] [(3, .none)]))
 (cond (decide ((cellA e1 4).toI > a4))
 (k .nrm (St.of [(0, (.d (.sl (SK.ro) 7 es))), (3, (.d (.rptr [(.int .i64 a0), (.int .i64 a1), (.int .i64 a2), (.int .i64 a3), (.int .i64 a4), (.int .i64 a5), (.int .i64 a6)] 0))), (6, (.d (.int .i64 (IntKind.i64.wrap ((↑i : Int) + (1 : Int))))))] [(3, .none)]))
 (k .nrm (St.of [(0, (.d (.sl (SK.ro) 7 es))), (3, (.d (.rptr [(.int .i64 a0), (.int .i64 a1), (.int .i64 a2), (.int .i64 a3), (.int .i64 a4), (.int .i64 a5), (.int .i64 a6)] 0))), (6, (.d (.int .i64 (IntKind.i64.wrap ((↑i : Int) + (1 : Int))))))] [(3, .none)]))))))
 (cond (decide ((cellA e1 1).toI > a1))
 (cond ((cellA e1 4).toI != (cellA e1 4).toI)
 (cond (a4 != a4)
 (k (.ex 1) (St.of [(0, (.d (.sl (SK.ro) 7 es))), (3, (.d (.rptr [(.int .i64 a0), (.int .i64 a1), (.int .i64 a2), (.int .i64 a3), (.int .i64 a4), (.int .i64 a5), (.int .i64 a6)] 0))), (6, (.d (.int .i64 ((↑i : Int)))))] [(3, .none)]))
 (k (.ex 1) (St.of [(0, (.d (.sl (SK.ro) 7 es))), (3, (.d (.rptr [(.int .i64 a0), (.int .i64 a1), (.int .i64 a2), (.int .i64 a3), (.int .i64 a4), (.int .i64 a5), (.int .i64 a6)] 0))), (6, (.d (.int .i64 ((↑i : Int)))))] [(3, .none)])))
 (cond (a4 != a4)
 (k (.ex 1) (St.of [(0, (.d (.sl (SK.ro) 7 es))), (3, (.d (.rptr [(.int .i64 a0), (.int .i64 a1), (.int .i64 a2), (.int .i64 a3), (.int .i64 a4), (.int .i64 a5), (.int .i64 a6)] 0))), (6, (.d (.int .i64 ((↑i : Int)))))] [(3, .none)]))
 (cond (decide ((cellA e1 4).toI < a4))
 (k (.ex 1) (St.of [(0, (.d (.sl (SK.ro) 7 es))), (3, (.d (.rptr [(.int .i64 a0), (.int .i64 a1), (.int .i64 a2), (.int .i64 a3), (.int .i64 a4), (.int .i64 a5), (.int .i64 a6)] 0))), (6, (.d (.int .i64 ((↑i : Int)))))] [(3, .none)]))
 (cond (decide ((cellA e1 4).toI > a4))
 (k (.ex 1) (St.of [(0, (.d (.sl (SK.ro) 7 es))), (3, (.d (.rptr [(.int .i64 a0), (.int .i64 a1), (.int .i64 a2), (.int .i64 a3), (.int .i64 a4), (.int .i64 a5), (.int .i64 a6)] 0))), (6, (.d (.int .i64 ((↑i : Int)))))] [(3, .none)]))
 (k (.ex 1) (St.of [(0, (.d (.sl (SK.ro) 7 es))), (3, (.d (.rptr [(.int .i64 a0), (.int .i64 a1), (.int .i64 a2), (.int .i64 a3), (.int .i64 a4), (.int .i64 a5), (.int .i64 a6)] 0))), (6, (.d (.int .i64 ((↑i : Int)))))] [(3, .none)]))))))
 (cond ((cellA e1 4).toI != (cellA e1 4).toI)
 (cond (a4 != a4)
 (k .nrm (St.of [(0, (.d (.sl (SK.ro) 7 es))), (3, (.d (.rptr [(.int .i64 a0), (.int .i64 a1), (.int .i64 a2), (.int .i64 a3), (.int .i64 a4), (.int .i64 a5), (.int .i64 a6)] 0))), (6, (.d (.int .i64 (IntKind.i64.wrap ((↑i : Int) + (1 : Int))))))] [(3, .none)]))
 (k .nrm (St.of [(0, (.d (.sl (SK.ro) 7 es))), (3, (.d (.rptr [(.int .i64 a0), (.int .i64 a1), (.int .i64 a2), (.int .i64 a3), (.int .i64 a4), (.int .i64 a5), (.int .i64 a6)] 0))), (6, (.d (.int .i64 (IntKind.i64.wrap ((↑i : Int) + (1 : Int))))))] [(3, .none)])))
 (cond (a4 != a4)
 (k (.ex 1) (St.of [(0, (.d (.sl (SK.ro) 7 es))), (3, (.d (.rptr [(.int .i64 a0), (.int .i64 a1), (.int .i64 a2), (.int .i64 a3), (.int .i64 a4), (.int .i64 a5), (.int .i64 a6)] 0))), (6, (.d (.int .i64 ((↑i : Int)))))] [(3, .none)]))
 (cond (decide ((cellA e1 4).toI < a4))
 (k .nrm (St.of [(0, (.d (.sl (SK.ro) 7 es))), (3, (.d (.rptr [(.int .i64 a0), (.int .i64 a1), (.int .i64 a2), (.int .i64 a3), (.int .i64 a4), (.int .i64 a5), (.int .i64 a6)] 0))), (6, (.d (.int .i64 (IntKind.i64.wrap ((↑i : Int) + (1 : Int))))))] [(3, .none)]))
 (cond (decide ((cellA e1 4).toI > a4))
 (k (.ex 1) (St.of [(0, (.d (.sl (SK.ro) 7 es))), (3, (.d (.rptr [(.int .i64 a0), (.int .i64 a1), (.int .i64 a2), (.int .i64 a3), (.int .i64 a4), (.int .i64 a5), (.int .i64 a6)] 0))), (6, (.d (.int .i64 ((↑i : Int)))))] [(3, .none)]))
 (k .nrm (St.of [(0, (.d (.sl (SK.ro) 7 es))), (3, (.d (.rptr [(.int .i64 a0), (.int .i64 a1), (.int .i64 a2), (.int .i64 a3), (.int .i64 a4), (.int .i64 a5), (.int .i64 a6)] 0))), (6, (.d (.int .i64 (IntKind.i64.wrap ((↑i : Int) + (1 : Int))))))] [(3, .none)]))))))))))
 none))
 (k (.ex 1) (St.of [(0, (.d (.sl (SK.ro) 7 es))), (3, (.d (.rptr [(.int .i64 a0), (.int .i64 a1), (.int .i64 a2), (.int .i64 a3), (.int .i64 a4), (.int .i64 a5), (.int .i64 a6)] 0))), (6, (.d (.int .i64 ((↑i : Int)))))] [(3, .none)]))) from by kernel_rfl).trans (by first | rfl | (simp only [decide_true, decide_false, eq_self, and_true, true_and, and_self, cond_true, cond_false, Nat.le_refl, Int.le_refl, Option.getD_some, Option.getD_none, Int.toNat_natCast, List.take_length, List.drop_zero, Nat.zero_add, List.nil_append, List.all_nil, List.append_nil, Bool.true_and, Bool.and_true, rowsA_sla, rowsA_sl, rowsA_nil, minus_zero, nat_le_cast, nat_nonneg, Option.isSome_some, Option.isSome_none, Bool.false_eq_true, false_and, and_false, if_true, if_false, implies_true, Int.toNat_zero, Bool.not_false, Bool.not_true, bne_self_eq_false]; done) | (simp only [decide_true, decide_false, eq_self, and_true, true_and, and_self, cond_true, cond_false, Nat.le_refl, Int.le_refl, Option.getD_some, Option.getD_none, Int.toNat_natCast, List.take_length, List.drop_zero, Nat.zero_add, List.nil_append, List.all_nil, List.append_nil, Bool.true_and, Bool.and_true, rowsA_sla, rowsA_sl, rowsA_nil, minus_zero, nat_le_cast, nat_nonneg, Option.isSome_some, Option.isSome_none, Bool.false_eq_true, false_and, and_false, if_true, if_false, implies_true, Int.toNat_zero, Bool.not_false, Bool.not_true, bne_self_eq_false]; rfl))
theorem s220n (L n : Nat) (a0 a1 a2 a3 a4 a5 a6 : Int) (i : Nat) (k : Kont) : LB tab spQ lp (L+4) (n+4) h220 c22l0 (S220 .nilsl [.int .i64 a0, .int .i64 a1, .int .i64 a2, .int .i64 a3, .int .i64 a4, .int .i64 a5, .int .i64 a6] i) k =
   (k (Ex.ex (1 : Nat))
 (St.of
 [(0, AV.d DV.nilsl),
 ((3 : Nat),
 AV.d
 (DV.rptr
 [DV.int .i64 a0, DV.int .i64 a1, DV.int .i64 a2, DV.int .i64 a3, DV.int .i64 a4, DV.int .i64 a5, DV.int .i64 a6]
 (0 : Nat))),
 ((6 : Nat), AV.d (DV.int .i64 (↑i : Int)))]
 [(3, none)])) :=
  (show LB tab spQ lp (L+4) (n+4) h220 c22l0 (S220 .nilsl [.int .i64 a0, .int .i64 a1, .int .i64 a2, .int .i64 a3, .int .i64 a4, .int .i64 a5, .int .i64 a6] i) k =
 (k (.ex 1) (St.of [(0, (.d .nilsl)), (3, (.d (.rptr [(.int .i64 a0), (.int .i64 a1), (.int .i64 a2), (.int .i64 a3), (.int .i64 a4), (.int .i64 a5), (.int .i64 a6)] 0))), (6, (.d (.int .i64 ((↑i : Int)))))] [(3, .none)])) from by kernel_rfl).trans (by first | rfl | (simp only [decide_true, decide_false, eq_self, and_true, true_and, and_self, cond_true, cond_false, Nat.le_refl, Int.le_refl, Option.getD_some, Option.getD_none, Int.toNat_natCast, List.take_length, List.drop_zero, Nat.zero_add, List.nil_append, List.all_nil, List.append_nil, Bool.true_and, Bool.and_true, rowsA_sla, rowsA_sl, rowsA_nil, minus_zero, nat_le_cast, nat_nonneg, Option.isSome_some, Option.isSome_none, Bool.false_eq_true, false_and, and_false, if_true, if_false, implies_true, Int.toNat_zero, Bool.not_false, Bool.not_true, bne_self_eq_false]; done) | (simp only [decide_true, decide_false, eq_self, and_true, true_and, and_self, cond_true, cond_false, Nat.le_refl, Int.le_refl, Option.getD_some, Option.getD_none, Int.toNat_natCast, List.take_length, List.drop_zero, Nat.zero_add, List.nil_append, List.all_nil, List.append_nil, Bool.true_and, Bool.and_true, rowsA_sla, rowsA_sl, rowsA_nil, minus_zero, nat_le_cast, nat_nonneg, Option.isSome_some, Option.isSome_none, Bool.false_eq_true, false_and, and_false, if_true, if_false, implies_true, Int.toNat_zero, Bool.not_false, Bool.not_true, bne_self_eq_false]; rfl))
theorem t41 (L n : Nat) (es : List (List DV)) (i : Int) (a0 a1 a2 a3 a4 a5 a6 : Int) : FK tab noSp lp L (n+8) 41 [.mv 38 7 es, .int .i64 i, .sla false 7 [[.int .i64 a0, .int .i64 a1, .int .i64 a2, .int .i64 a3, .int .i64 a4, .int .i64 a5, .int .i64 a6]]] =
   (bif decide ((0 : Int) ≤ i) then
 bif decide (i ≤ (↑es.length : Int)) then
 bif i == (↑es.length : Int) then
 bif
 decide
 ((es ++
 [[DV.int .i64 a0, DV.int .i64 a1, DV.int .i64 a2, DV.int .i64 a3, DV.int .i64 a4, DV.int .i64 a5, DV.int .i64 a6]]).length *
 (56 : Nat) ≤
 room ∧
 (es ++
 [[DV.int .i64 a0, DV.int .i64 a1, DV.int .i64 a2, DV.int .i64 a3, DV.int .i64 a4, DV.int .i64 a5, DV.int .i64 a6]]).length ≤
 room) then
 some
 (DV.sl (SK.own (38 : Nat)) (7 : Nat)
 (es ++
 [[DV.int .i64 a0, DV.int .i64 a1, DV.int .i64 a2, DV.int .i64 a3, DV.int .i64 a4, DV.int .i64 a5, DV.int .i64 a6]]))
 else none
 else none
 else none
 else none) :=
  (show FK tab noSp lp L (n+8) 41 [.mv 38 7 es, .int .i64 i, .sla false 7 [[.int .i64 a0, .int .i64 a1, .int .i64 a2, .int .i64 a3, .int .i64 a4, .int .i64 a5, .int .i64 a6]]] =
 (cond (decide ((0 : Int) ≤ (some i).getD (0 : Int)))
 (cond (decide ((some i).getD (0 : Int) ≤ none.getD (↑es.length : Int)))
 (cond (decide (none.getD (↑es.length : Int) ≤ (↑es.length : Int)))
 (cond (i == (↑es.length : Int))
 (cond (decide ((38 : TypeId) = (38 : Nat) ∧ (7 : Nat) = (7 : Nat) ∧ (7 : Nat) = (7 : Nat) ∧ (0 : Nat) = (0 : Nat) ∧ es.length = es.length ∧ (es ++ [[DV.int .i64 a0, DV.int .i64 a1, DV.int .i64 a2, DV.int .i64 a3, DV.int .i64 a4, DV.int .i64 a5, DV.int .i64 a6]]).length * (56 : Nat) ≤ room ∧ (es ++ [[DV.int .i64 a0, DV.int .i64 a1, DV.int .i64 a2, DV.int .i64 a3, DV.int .i64 a4, DV.int .i64 a5, DV.int .i64 a6]]).length ≤ room))
 (cond (decide ((es ++ [[DV.int .i64 a0, DV.int .i64 a1, DV.int .i64 a2, DV.int .i64 a3, DV.int .i64 a4, DV.int .i64 a5, DV.int .i64 a6]]).length = (es ++ [[DV.int .i64 a0, DV.int .i64 a1, DV.int .i64 a2, DV.int .i64 a3, DV.int .i64 a4, DV.int .i64 a5, DV.int .i64 a6]]).length))
 (some (.sl (SK.own (38 : Nat)) 7 (es ++ [[DV.int .i64 a0, DV.int .i64 a1, DV.int .i64 a2, DV.int .i64 a3, DV.int .i64 a4, DV.int .i64 a5, DV.int .i64 a6]])))
 (cond (decide ((0 : Nat) + (es ++ [[DV.int .i64 a0, DV.int .i64 a1, DV.int .i64 a2, DV.int .i64 a3, DV.int .i64 a4, DV.int .i64 a5, DV.int .i64 a6]]).length ≤ (es ++ [[DV.int .i64 a0, DV.int .i64 a1, DV.int .i64 a2, DV.int .i64 a3, DV.int .i64 a4, DV.int .i64 a5, DV.int .i64 a6]]).length))
 (some (.sl (SK.ro) 7 (List.take (es ++ [[DV.int .i64 a0, DV.int .i64 a1, DV.int .i64 a2, DV.int .i64 a3, DV.int .i64 a4, DV.int .i64 a5, DV.int .i64 a6]]).length (es ++ [[DV.int .i64 a0, DV.int .i64 a1, DV.int .i64 a2, DV.int .i64 a3, DV.int .i64 a4, DV.int .i64 a5, DV.int .i64 a6]]))))
 none))
 none)
 none)
 none)
 none)
 none) from by kernel_rfl).trans (by first | rfl | (simp only [decide_true, decide_false, eq_self, and_true, true_and, and_self, cond_true, cond_false, Nat.le_refl, Int.le_refl, Option.getD_some, Option.getD_none, Int.toNat_natCast, List.take_length, List.drop_zero, Nat.zero_add, List.nil_append, List.all_nil, List.append_nil, Bool.true_and, Bool.and_true, rowsA_sla, rowsA_sl, rowsA_nil, minus_zero, nat_le_cast, nat_nonneg, Option.isSome_some, Option.isSome_none, Bool.false_eq_true, false_and, and_false, if_true, if_false, implies_true, Int.toNat_zero, Bool.not_false, Bool.not_true, bne_self_eq_false]; done) | (simp only [decide_true, decide_false, eq_self, and_true, true_and, and_self, cond_true, cond_false, Nat.le_refl, Int.le_refl, Option.getD_some, Option.getD_none, Int.toNat_natCast, List.take_length, List.drop_zero, Nat.zero_add, List.nil_append, List.all_nil, List.append_nil, Bool.true_and, Bool.and_true, rowsA_sla, rowsA_sl, rowsA_nil, minus_zero, nat_le_cast, nat_nonneg, Option.isSome_some, Option.isSome_none, Bool.false_eq_true, false_and, and_false, if_true, if_false, implies_true, Int.toNat_zero, Bool.not_false, Bool.not_true, bne_self_eq_false]; rfl))
theorem t41n (L n : Nat) (a0 a1 a2 a3 a4 a5 a6 : Int) : FK tab noSp lp L (n+8) 41 [.nilsl, .int .i64 0, .sla false 7 [[.int .i64 a0, .int .i64 a1, .int .i64 a2, .int .i64 a3, .int .i64 a4, .int .i64 a5, .int .i64 a6]]] =
   (some
 (DV.sl (SK.own (38 : Nat)) (7 : Nat)
 [[DV.int .i64 a0, DV.int .i64 a1, DV.int .i64 a2, DV.int .i64 a3, DV.int .i64 a4, DV.int .i64 a5, DV.int .i64 a6]])) :=
  (show FK tab noSp lp L (n+8) 41 [.nilsl, .int .i64 0, .sla false 7 [[.int .i64 a0, .int .i64 a1, .int .i64 a2, .int .i64 a3, .int .i64 a4, .int .i64 a5, .int .i64 a6]]] =
 (some (.sl (SK.own (38 : Nat)) 7 [[(.int .i64 a0), (.int .i64 a1), (.int .i64 a2), (.int .i64 a3), (.int .i64 a4), (.int .i64 a5), (.int .i64 a6)]])) from by kernel_rfl).trans (by first | rfl | (simp only [decide_true, decide_false, eq_self, and_true, true_and, and_self, cond_true, cond_false, Nat.le_refl, Int.le_refl, Option.getD_some, Option.getD_none, Int.toNat_natCast, List.take_length, List.drop_zero, Nat.zero_add, List.nil_append, List.all_nil, List.append_nil, Bool.true_and, Bool.and_true, rowsA_sla, rowsA_sl, rowsA_nil, minus_zero, nat_le_cast, nat_nonneg, Option.isSome_some, Option.isSome_none, Bool.false_eq_true, false_and, and_false, if_true, if_false, implies_true, Int.toNat_zero, Bool.not_false, Bool.not_true, bne_self_eq_false]; done) | (simp only [decide_true, decide_false, eq_self, and_true, true_and, and_self, cond_true, cond_false, Nat.le_refl, Int.le_refl, Option.getD_some, Option.getD_none, Int.toNat_natCast, List.take_length, List.drop_zero, Nat.zero_add, List.nil_append, List.all_nil, List.append_nil, Bool.true_and, Bool.and_true, rowsA_sla, rowsA_sl, rowsA_nil, minus_zero, nat_le_cast, nat_nonneg, Option.isSome_some, Option.isSome_none, Bool.false_eq_true, false_and, and_false, if_true, if_false, implies_true, Int.toNat_zero, Bool.not_false, Bool.not_true, bne_self_eq_false]; rfl))
theorem t22 (L n : Nat) (es : List (List DV)) (a0 a1 a2 a3 a4 a5 a6 : Int) : FK tab spQ lp L (n+8) 22 [.sl .ro 7 es, .agg [.int .i64 a0, .int .i64 a1, .int .i64 a2, .int .i64 a3, .int .i64 a4, .int .i64 a5, .int .i64 a6]] =
   (need (fndS.D [DV.sl SK.ro 7 es, DV.int .i64 a0])
 (bif decide (fI es a0 ≥ (0 : Int)) then some (DV.tuple [DV.sl SK.ro 7 es, DV.int .i64 6])
 else
 bif decide ((↑es.length : Int) ≥ (40 : Int)) then some (DV.tuple [DV.sl SK.ro 7 es, DV.int .i64 3])
 else
 need
 (LoopOk (LB tab spQ lp L (n + (8 : Nat)) h220 c22l0)
 (St.of
 [(0, AV.d (DV.sl SK.ro 7 es)),
 ((3 : Nat),
 AV.d
 (DV.rptr
 [DV.int .i64 a0, DV.int .i64 a1, DV.int .i64 a2, DV.int .i64 a3, DV.int .i64 a4, DV.int .i64 a5, DV.int .i64 a6]
 (0 : Nat))),
 ((6 : Nat), AV.d (DV.int .i64 0))]
 [(3, none)])
 (Ex.ex (1 : Nat),
 St.of
 [(0, AV.d (DV.sl SK.ro 7 es)),
 ((3 : Nat),
 AV.d
 (DV.rptr
 [DV.int .i64 a0, DV.int .i64 a1, DV.int .i64 a2, DV.int .i64 a3, DV.int .i64 a4, DV.int .i64 a5, DV.int .i64 a6]
 (0 : Nat))),
 ((6 : Nat),
 AV.d
 (DV.int .i64
 (↑(bhP es
 [DV.int .i64 a0, DV.int .i64 a1, DV.int .i64 a2, DV.int .i64 a3, DV.int .i64 a4, DV.int .i64 a5, DV.int .i64 a6]) :
 Int)))]
 [(3, none)]))
 (bif decide (es.length = (0 : Nat)) then
 need
 (insP.D
 [DV.mv (38 : TypeId) (7 : Nat) [], DV.int .i64
 (↑(bhP es
 [DV.int .i64 a0, DV.int .i64 a1, DV.int .i64 a2, DV.int .i64 a3, DV.int .i64 a4, DV.int .i64 a5, DV.int .i64 a6]) :
 Int),
 DV.sl SK.tight 7
 [[DV.int .i64 a0, DV.int .i64 a1, DV.int .i64 a2, DV.int .i64 a3, DV.int .i64 a4, DV.int .i64 a5, DV.int .i64 a6]]])
 (some
 (DV.tuple
 [DV.sl (SK.own (38 : TypeId)) (7 : Nat)
 (List.take
 (bhP es
 [DV.int .i64 a0, DV.int .i64 a1, DV.int .i64 a2, DV.int .i64 a3, DV.int .i64 a4, DV.int .i64 a5, DV.int .i64 a6])
 [] ++
 ([[DV.int .i64 a0, DV.int .i64 a1, DV.int .i64 a2, DV.int .i64 a3, DV.int .i64 a4, DV.int .i64 a5, DV.int .i64 a6]] ++
 List.drop
 (bhP es
 [DV.int .i64 a0, DV.int .i64 a1, DV.int .i64 a2, DV.int .i64 a3, DV.int .i64 a4, DV.int .i64 a5, DV.int .i64 a6])
 [])), DV.int .i64 0]))
 else
 bif es.all fun (e : List DV) => e.length == (7 : Nat) && e.all DV.one then
 bif decide (es.length * (56 : Nat) ≤ room ∧ es.length ≤ room) then
 need
 (insP.D
 [DV.mv (38 : TypeId) (7 : Nat) es, DV.int .i64
 (↑(bhP es
 [DV.int .i64 a0, DV.int .i64 a1, DV.int .i64 a2, DV.int .i64 a3, DV.int .i64 a4, DV.int .i64 a5, DV.int .i64 a6]) :
 Int),
 DV.sl SK.tight 7
 [[DV.int .i64 a0, DV.int .i64 a1, DV.int .i64 a2, DV.int .i64 a3, DV.int .i64 a4, DV.int .i64 a5, DV.int .i64 a6]]])
 (some
 (DV.tuple
 [DV.sl (SK.own (38 : TypeId)) (7 : Nat)
 (List.take
 (bhP es
 [DV.int .i64 a0, DV.int .i64 a1, DV.int .i64 a2, DV.int .i64 a3, DV.int .i64 a4, DV.int .i64 a5, DV.int .i64 a6])
 es ++
 ([[DV.int .i64 a0, DV.int .i64 a1, DV.int .i64 a2, DV.int .i64 a3, DV.int .i64 a4, DV.int .i64 a5, DV.int .i64 a6]] ++
 List.drop
 (bhP es
 [DV.int .i64 a0, DV.int .i64 a1, DV.int .i64 a2, DV.int .i64 a3, DV.int .i64 a4, DV.int .i64 a5, DV.int .i64 a6])
 es)), DV.int .i64 0]))
 else none
 else none))) :=
  (show FK tab spQ lp L (n+8) 22 [.sl .ro 7 es, .agg [.int .i64 a0, .int .i64 a1, .int .i64 a2, .int .i64 a3, .int .i64 a4, .int .i64 a5, .int .i64 a6]] =
 (need (FSpec.D (fndS) [(.sl (SK.ro) 7 es), (.int .i64 a0)])
 (cond (decide (fI (rowsA (DV.sl SK.ro 7 es)) a0 ≥ (0 : Int)))
 (some (.tuple [(.sl (SK.ro) 7 es), (.int .i64 ((6 : Int)))]))
 (cond (decide ((↑es.length : Int) ≥ (40 : Int)))
 (some (.tuple [(.sl (SK.ro) 7 es), (.int .i64 ((3 : Int)))]))
 (need (LoopOk (LB tab spQ lp L (n + (8 : Nat)) h220 c22l0) (St.of [(0, (.d (.sl (SK.ro) 7 es))), (3, (.d (.rptr [(.int .i64 a0), (.int .i64 a1), (.int .i64 a2), (.int .i64 a3), (.int .i64 a4), (.int .i64 a5), (.int .i64 a6)] 0))), (6, (.d (.int .i64 ((0 : Int)))))] [(3, .none)]) ((.ex 1), (St.of [(0, (.d (.sl (SK.ro) 7 es))), (3, (.d (.rptr [(.int .i64 a0), (.int .i64 a1), (.int .i64 a2), (.int .i64 a3), (.int .i64 a4), (.int .i64 a5), (.int .i64 a6)] 0))), (6, (.d (.int .i64 ((↑(bhP (rowsA (DV.sl SK.ro 7 es)) [DV.int .i64 a0, DV.int .i64 a1, DV.int .i64 a2, DV.int .i64 a3, DV.int .i64 a4, DV.int .i64 a5, DV.int .i64 a6]) : Int)))))] [(3, .none)])))
 (cond (decide (es.length = (0 : Nat)))
 (need (FSpec.D (insP) [(.mv 38 7 []), (.int .i64 ((↑(bhP (rowsA (DV.sl SK.ro 7 es)) [DV.int .i64 a0, DV.int .i64 a1, DV.int .i64 a2, DV.int .i64 a3, DV.int .i64 a4, DV.int .i64 a5, DV.int .i64 a6]) : Int))), (.sl (SK.tight) 7 [[(.int .i64 a0), (.int .i64 a1), (.int .i64 a2), (.int .i64 a3), (.int .i64 a4), (.int .i64 a5), (.int .i64 a6)]])])
 (cond (decide ((List.take (↑(bhP (rowsA (DV.sl SK.ro 7 es)) [DV.int .i64 a0, DV.int .i64 a1, DV.int .i64 a2, DV.int .i64 a3, DV.int .i64 a4, DV.int .i64 a5, DV.int .i64 a6]) : Int).toNat [] ++ (rowsA (DV.sl SK.tight 7 [[DV.int .i64 a0, DV.int .i64 a1, DV.int .i64 a2, DV.int .i64 a3, DV.int .i64 a4, DV.int .i64 a5, DV.int .i64 a6]]) ++ List.drop (↑(bhP (rowsA (DV.sl SK.ro 7 es)) [DV.int .i64 a0, DV.int .i64 a1, DV.int .i64 a2, DV.int .i64 a3, DV.int .i64 a4, DV.int .i64 a5, DV.int .i64 a6]) : Int).toNat [])).length = (List.take (↑(bhP (rowsA (DV.sl SK.ro 7 es)) [DV.int .i64 a0, DV.int .i64 a1, DV.int .i64 a2, DV.int .i64 a3, DV.int .i64 a4, DV.int .i64 a5, DV.int .i64 a6]) : Int).toNat [] ++ (rowsA (DV.sl SK.tight 7 [[DV.int .i64 a0, DV.int .i64 a1, DV.int .i64 a2, DV.int .i64 a3, DV.int .i64 a4, DV.int .i64 a5, DV.int .i64 a6]]) ++ List.drop (↑(bhP (rowsA (DV.sl SK.ro 7 es)) [DV.int .i64 a0, DV.int .i64 a1, DV.int .i64 a2, DV.int .i64 a3, DV.int .i64 a4, DV.int .i64 a5, DV.int .i64 a6]) : Int).toNat [])).length))
 (some (.tuple [(.sl (SK.own (38 : TypeId)) 7 (List.take (↑(bhP (rowsA (DV.sl SK.ro 7 es)) [DV.int .i64 a0, DV.int .i64 a1, DV.int .i64 a2, DV.int .i64 a3, DV.int .i64 a4, DV.int .i64 a5, DV.int .i64 a6]) : Int).toNat [] ++ (rowsA (DV.sl SK.tight 7 [[DV.int .i64 a0, DV.int .i64 a1, DV.int .i64 a2, DV.int .i64 a3, DV.int .i64 a4, DV.int .i64 a5, DV.int .i64 a6]]) ++ List.drop (↑(bhP (rowsA (DV.sl SK.ro 7 es)) [DV.int .i64 a0, DV.int .i64 a1, DV.int .i64 a2, DV.int .i64 a3, DV.int .i64 a4, DV.int .i64 a5, DV.int .i64 a6]) : Int).toNat []))), (.int .i64 ((0 : Int)))]))
 (cond (decide ((0 : Nat) + (List.take (↑(bhP (rowsA (DV.sl SK.ro 7 es)) [DV.int .i64 a0, DV.int .i64 a1, DV.int .i64 a2, DV.int .i64 a3, DV.int .i64 a4, DV.int .i64 a5, DV.int .i64 a6]) : Int).toNat [] ++ (rowsA (DV.sl SK.tight 7 [[DV.int .i64 a0, DV.int .i64 a1, DV.int .i64 a2, DV.int .i64 a3, DV.int .i64 a4, DV.int .i64 a5, DV.int .i64 a6]]) ++ List.drop (↑(bhP (rowsA (DV.sl SK.ro 7 es)) [DV.int .i64 a0, DV.int .i64 a1, DV.int .i64 a2, DV.int .i64 a3, DV.int .i64 a4, DV.int .i64 a5, DV.int .i64 a6]) : Int).toNat [])).length ≤ (List.take (↑(bhP (rowsA (DV.sl SK.ro 7 es)) [DV.int .i64 a0, DV.int .i64 a1, DV.int .i64 a2, DV.int .i64 a3, DV.int .i64 a4, DV.int .i64 a5, DV.int .i64 a6]) : Int).toNat [] ++ (rowsA (DV.sl SK.tight 7 [[DV.int .i64 a0, DV.int .i64 a1, DV.int .i64 a2, DV.int .i64 a3, DV.int .i64 a4, DV.int .i64 a5, DV.int .i64 a6]]) ++ List.drop (↑(bhP (rowsA (DV.sl SK.ro 7 es)) [DV.int .i64 a0, DV.int .i64 a1, DV.int .i64 a2, DV.int .i64 a3, DV.int .i64 a4, DV.int .i64 a5, DV.int .i64 a6]) : Int).toNat [])).length))
 (some (.tuple [(.sl (SK.ro) 7 (List.take (List.take (↑(bhP (rowsA (DV.sl SK.ro 7 es)) [DV.int .i64 a0, DV.int .i64 a1, DV.int .i64 a2, DV.int .i64 a3, DV.int .i64 a4, DV.int .i64 a5, DV.int .i64 a6]) : Int).toNat [] ++ (rowsA (DV.sl SK.tight 7 [[DV.int .i64 a0, DV.int .i64 a1, DV.int .i64 a2, DV.int .i64 a3, DV.int .i64 a4, DV.int .i64 a5, DV.int .i64 a6]]) ++ List.drop (↑(bhP (rowsA (DV.sl SK.ro 7 es)) [DV.int .i64 a0, DV.int .i64 a1, DV.int .i64 a2, DV.int .i64 a3, DV.int .i64 a4, DV.int .i64 a5, DV.int .i64 a6]) : Int).toNat [])).length (List.take (↑(bhP (rowsA (DV.sl SK.ro 7 es)) [DV.int .i64 a0, DV.int .i64 a1, DV.int .i64 a2, DV.int .i64 a3, DV.int .i64 a4, DV.int .i64 a5, DV.int .i64 a6]) : Int).toNat [] ++ (rowsA (DV.sl SK.tight 7 [[DV.int .i64 a0, DV.int .i64 a1, DV.int .i64 a2, DV.int .i64 a3, DV.int .i64 a4, DV.int .i64 a5, DV.int .i64 a6]]) ++ List.drop (↑(bhP (rowsA (DV.sl SK.ro 7 es)) [DV.int .i64 a0, DV.int .i64 a1, DV.int .i64 a2, DV.int .i64 a3, DV.int .i64 a4, DV.int .i64 a5, DV.int .i64 a6]) : Int).toNat [])))), (.int .i64 ((0 : Int)))]))
 none)))
 (cond (es.all fun (e : List DV) => e.length == (7 : Nat) && e.all DV.one)
 (cond (decide ((38 : Nat) = (38 : Nat) ∧ (7 : Nat) = (7 : Nat) ∧ (7 : Nat) = (7 : Nat) ∧ (0 : Nat) = (0 : Nat) ∧ (0 : Nat) = (0 : Nat) ∧ es.length * (56 : Nat) ≤ room ∧ es.length ≤ room))
 (cond (decide (es.length = es.length))
 (cond (decide ((7 : Nat) = (7 : Nat) ∧ (0 : Nat) = (0 : Nat) ∧ es.length = es.length))
 (need (FSpec.D (insP) [(.mv 38 7 es), (.int .i64 ((↑(bhP (rowsA (DV.sl SK.ro 7 es)) [DV.int .i64 a0, DV.int .i64 a1, DV.int .i64 a2, DV.int .i64 a3, DV.int .i64 a4, DV.int .i64 a5, DV.int .i64 a6]) : Int))), (.sl (SK.tight) 7 [[(.int .i64 a0), (.int .i64 a1), (.int .i64 a2), (.int .i64 a3), (.int .i64 a4), (.int .i64 a5), (.int .i64 a6)]])])
 (cond (decide ((List.take (↑(bhP (rowsA (DV.sl SK.ro 7 es)) [DV.int .i64 a0, DV.int .i64 a1, DV.int .i64 a2, DV.int .i64 a3, DV.int .i64 a4, DV.int .i64 a5, DV.int .i64 a6]) : Int).toNat es ++ (rowsA (DV.sl SK.tight 7 [[DV.int .i64 a0, DV.int .i64 a1, DV.int .i64 a2, DV.int .i64 a3, DV.int .i64 a4, DV.int .i64 a5, DV.int .i64 a6]]) ++ List.drop (↑(bhP (rowsA (DV.sl SK.ro 7 es)) [DV.int .i64 a0, DV.int .i64 a1, DV.int .i64 a2, DV.int .i64 a3, DV.int .i64 a4, DV.int .i64 a5, DV.int .i64 a6]) : Int).toNat es)).length = (List.take (↑(bhP (rowsA (DV.sl SK.ro 7 es)) [DV.int .i64 a0, DV.int .i64 a1, DV.int .i64 a2, DV.int .i64 a3, DV.int .i64 a4, DV.int .i64 a5, DV.int .i64 a6]) : Int).toNat es ++ (rowsA (DV.sl SK.tight 7 [[DV.int .i64 a0, DV.int .i64 a1, DV.int .i64 a2, DV.int .i64 a3, DV.int .i64 a4, DV.int .i64 a5, DV.int .i64 a6]]) ++ List.drop (↑(bhP (rowsA (DV.sl SK.ro 7 es)) [DV.int .i64 a0, DV.int .i64 a1, DV.int .i64 a2, DV.int .i64 a3, DV.int .i64 a4, DV.int .i64 a5, DV.int .i64 a6]) : Int).toNat es)).length))
 (some (.tuple [(.sl (SK.own (38 : TypeId)) 7 (List.take (↑(bhP (rowsA (DV.sl SK.ro 7 es)) [DV.int .i64 a0, DV.int .i64 a1, DV.int .i64 a2, DV.int .i64 a3, DV.int .i64 a4, DV.int .i64 a5, DV.int .i64 a6]) : Int).toNat es ++ (rowsA (DV.sl SK.tight 7 [[DV.int .i64 a0, DV.int .i64 a1, DV.int .i64 a2, DV.int .i64 a3, DV.int .i64 a4, DV.int .i64 a5, DV.int .i64 a6]]) ++ List.drop (↑(bhP (rowsA (DV.sl SK.ro 7 es)) [DV.int .i64 a0, DV.int .i64 a1, DV.int .i64 a2, DV.int .i64 a3, DV.int .i64 a4, DV.int .i64 a5, DV.int .i64 a6]) : Int).toNat es))), (.int .i64 ((0 : Int)))]))
 (cond (decide ((0 : Nat) + (List.take (↑(bhP (rowsA (DV.sl SK.ro 7 es)) [DV.int .i64 a0, DV.int .i64 a1, DV.int .i64 a2, DV.int .i64 a3, DV.int .i64 a4, DV.int .i64 a5, DV.int .i64 a6]) : Int).toNat es ++ (rowsA (DV.sl SK.tight 7 [[DV.int .i64 a0, DV.int .i64 a1, DV.int .i64 a2, DV.int .i64 a3, DV.int .i64 a4, DV.int .i64 a5, DV.int .i64 a6]]) ++ List.drop (↑(bhP (rowsA (DV.sl SK.ro 7 es)) [DV.int .i64 a0, DV.int .i64 a1, DV.int .i64 a2, DV.int .i64 a3, DV.int .i64 a4, DV.int .i64 a5, DV.int .i64 a6]) : Int).toNat es)).length ≤ (List.take (↑(bhP (rowsA (DV.sl SK.ro 7 es)) [DV.int .i64 a0, DV.int .i64 a1, DV.int .i64 a2, DV.int .i64 a3, DV.int .i64 a4, DV.int .i64 a5, DV.int .i64 a6]) : Int).toNat es ++ (rowsA (DV.sl SK.tight 7 [[DV.int .i64 a0, DV.int .i64 a1, DV.int .i64 a2, DV.int .i64 a3, DV.int .i64 a4, DV.int .i64 a5, DV.int .i64 a6]]) ++ List.drop (↑(bhP (rowsA (DV.sl SK.ro 7 es)) [DV.int .i64 a0, DV.int .i64 a1, DV.int .i64 a2, DV.int .i64 a3, DV.int .i64 a4, DV.int .i64 a5, DV.int .i64 a6]) : Int).toNat es)).length))
 (some (.tuple [(.sl (SK.ro) 7 (List.take (List.take (↑(bhP (rowsA (DV.sl SK.ro 7 es)) [DV.int .i64 a0, DV.int .i64 a1, DV.int .i64 a2, DV.int .i64 a3, DV.int .i64 a4, DV.int .i64 a5, DV.int .i64 a6]) : Int).toNat es ++ (rowsA (DV.sl SK.tight 7 [[DV.int .i64 a0, DV.int .i64 a1, DV.int .i64 a2, DV.int .i64 a3, DV.int .i64 a4, DV.int .i64 a5, DV.int .i64 a6]]) ++ List.drop (↑(bhP (rowsA (DV.sl SK.ro 7 es)) [DV.int .i64 a0, DV.int .i64 a1, DV.int .i64 a2, DV.int .i64 a3, DV.int .i64 a4, DV.int .i64 a5, DV.int .i64 a6]) : Int).toNat es)).length (List.take (↑(bhP (rowsA (DV.sl SK.ro 7 es)) [DV.int .i64 a0, DV.int .i64 a1, DV.int .i64 a2, DV.int .i64 a3, DV.int .i64 a4, DV.int .i64 a5, DV.int .i64 a6]) : Int).toNat es ++ (rowsA (DV.sl SK.tight 7 [[DV.int .i64 a0, DV.int .i64 a1, DV.int .i64 a2, DV.int .i64 a3, DV.int .i64 a4, DV.int .i64 a5, DV.int .i64 a6]]) ++ List.drop (↑(bhP (rowsA (DV.sl SK.ro 7 es)) [DV.int .i64 a0, DV.int .i64 a1, DV.int .i64 a2, DV.int .i64 a3, DV.int .i64 a4, DV.int .i64 a5, DV.int .i64 a6]) : Int).toNat es)))), (.int .i64 ((0 : Int)))]))
 none)))
 none)
 (cond (decide ((0 : Nat) + es.length ≤ es.length))
 (need (FSpec.D (insP) [(.sl (SK.ro) 7 (List.take es.length es)), (.int .i64 ((↑(bhP (rowsA (DV.sl SK.ro 7 es)) [DV.int .i64 a0, DV.int .i64 a1, DV.int .i64 a2, DV.int .i64 a3, DV.int .i64 a4, DV.int .i64 a5, DV.int .i64 a6]) : Int))), (.sl (SK.tight) 7 [[(.int .i64 a0), (.int .i64 a1), (.int .i64 a2), (.int .i64 a3), (.int .i64 a4), (.int .i64 a5), (.int .i64 a6)]])])
 (some (.tuple [(.sl (SK.own (38 : TypeId)) 7 [[(.int .i64 a0), (.int .i64 a1), (.int .i64 a2), (.int .i64 a3), (.int .i64 a4), (.int .i64 a5), (.int .i64 a6)]]), (.int .i64 ((0 : Int)))])))
 none))
 none)
 none)))))) from by kernel_rfl).trans (by first | rfl | (simp only [decide_true, decide_false, eq_self, and_true, true_and, and_self, cond_true, cond_false, Nat.le_refl, Int.le_refl, Option.getD_some, Option.getD_none, Int.toNat_natCast, List.take_length, List.drop_zero, Nat.zero_add, List.nil_append, List.all_nil, List.append_nil, Bool.true_and, Bool.and_true, rowsA_sla, rowsA_sl, rowsA_nil, minus_zero, nat_le_cast, nat_nonneg, Option.isSome_some, Option.isSome_none, Bool.false_eq_true, false_and, and_false, if_true, if_false, implies_true, Int.toNat_zero, Bool.not_false, Bool.not_true, bne_self_eq_false]; done) | (simp only [decide_true, decide_false, eq_self, and_true, true_and, and_self, cond_true, cond_false, Nat.le_refl, Int.le_refl, Option.getD_some, Option.getD_none, Int.toNat_natCast, List.take_length, List.drop_zero, Nat.zero_add, List.nil_append, List.all_nil, List.append_nil, Bool.true_and, Bool.and_true, rowsA_sla, rowsA_sl, rowsA_nil, minus_zero, nat_le_cast, nat_nonneg, Option.isSome_some, Option.isSome_none, Bool.false_eq_true, false_and, and_false, if_true, if_false, implies_true, Int.toNat_zero, Bool.not_false, Bool.not_true, bne_self_eq_false]; rfl))
theorem t22n (L n : Nat) (a0 a1 a2 a3 a4 a5 a6 : Int) : FK tab spQ lp L (n+8) 22 [.nilsl, .agg [.int .i64 a0, .int .i64 a1, .int .i64 a2, .int .i64 a3, .int .i64 a4, .int .i64 a5, .int .i64 a6]] =
   (need (fndS.D [DV.nilsl, DV.int .i64 a0])
 (need
 (LoopOk (LB tab spQ lp L (n + (8 : Nat)) h220 c22l0)
 (St.of
 [(0, AV.d DV.nilsl),
 ((3 : Nat),
 AV.d
 (DV.rptr
 [DV.int .i64 a0, DV.int .i64 a1, DV.int .i64 a2, DV.int .i64 a3, DV.int .i64 a4, DV.int .i64 a5, DV.int .i64 a6]
 (0 : Nat))),
 ((6 : Nat), AV.d (DV.int .i64 0))]
 [(3, none)])
 (Ex.ex (1 : Nat),
 St.of
 [(0, AV.d DV.nilsl),
 ((3 : Nat),
 AV.d
 (DV.rptr
 [DV.int .i64 a0, DV.int .i64 a1, DV.int .i64 a2, DV.int .i64 a3, DV.int .i64 a4, DV.int .i64 a5, DV.int .i64 a6]
 (0 : Nat))),
 ((6 : Nat),
 AV.d
 (DV.int .i64
 (↑(bhP []
 [DV.int .i64 a0, DV.int .i64 a1, DV.int .i64 a2, DV.int .i64 a3, DV.int .i64 a4, DV.int .i64 a5, DV.int .i64 a6]) :
 Int)))]
 [(3, none)]))
 (need
 (insP.D
 [DV.nilsl, DV.int .i64
 (↑(bhP []
 [DV.int .i64 a0, DV.int .i64 a1, DV.int .i64 a2, DV.int .i64 a3, DV.int .i64 a4, DV.int .i64 a5, DV.int .i64 a6]) :
 Int),
 DV.sl SK.tight 7
 [[DV.int .i64 a0, DV.int .i64 a1, DV.int .i64 a2, DV.int .i64 a3, DV.int .i64 a4, DV.int .i64 a5, DV.int .i64 a6]]])
 (some
 (DV.tuple
 [DV.sl (SK.own (38 : TypeId)) (7 : Nat)
 [[DV.int .i64 a0, DV.int .i64 a1, DV.int .i64 a2, DV.int .i64 a3, DV.int .i64 a4, DV.int .i64 a5, DV.int .i64 a6]], DV.int .i64 0]))))) :=
  (show FK tab spQ lp L (n+8) 22 [.nilsl, .agg [.int .i64 a0, .int .i64 a1, .int .i64 a2, .int .i64 a3, .int .i64 a4, .int .i64 a5, .int .i64 a6]] =
 (need (FSpec.D (fndS) [.nilsl, (.int .i64 a0)])
 (need (LoopOk (LB tab spQ lp L (n + (8 : Nat)) h220 c22l0) (St.of [(0, (.d .nilsl)), (3, (.d (.rptr [(.int .i64 a0), (.int .i64 a1), (.int .i64 a2), (.int .i64 a3), (.int .i64 a4), (.int .i64 a5), (.int .i64 a6)] 0))), (6, (.d (.int .i64 ((0 : Int)))))] [(3, .none)]) ((.ex 1), (St.of [(0, (.d .nilsl)), (3, (.d (.rptr [(.int .i64 a0), (.int .i64 a1), (.int .i64 a2), (.int .i64 a3), (.int .i64 a4), (.int .i64 a5), (.int .i64 a6)] 0))), (6, (.d (.int .i64 ((↑(bhP (rowsA DV.nilsl) [DV.int .i64 a0, DV.int .i64 a1, DV.int .i64 a2, DV.int .i64 a3, DV.int .i64 a4, DV.int .i64 a5, DV.int .i64 a6]) : Int)))))] [(3, .none)])))
 (need (FSpec.D (insP) [.nilsl, (.int .i64 ((↑(bhP (rowsA DV.nilsl) [DV.int .i64 a0, DV.int .i64 a1, DV.int .i64 a2, DV.int .i64 a3, DV.int .i64 a4, DV.int .i64 a5, DV.int .i64 a6]) : Int))), (.sl (SK.tight) 7 [[(.int .i64 a0), (.int .i64 a1), (.int .i64 a2), (.int .i64 a3), (.int .i64 a4), (.int .i64 a5), (.int .i64 a6)]])])
 (some (.tuple [(.sl (SK.own (38 : TypeId)) 7 [[(.int .i64 a0), (.int .i64 a1), (.int .i64 a2), (.int .i64 a3), (.int .i64 a4), (.int .i64 a5), (.int .i64 a6)]]), (.int .i64 ((0 : Int)))]))))) from by kernel_rfl).trans (by first | rfl | (simp only [decide_true, decide_false, eq_self, and_true, true_and, and_self, cond_true, cond_false, Nat.le_refl, Int.le_refl, Option.getD_some, Option.getD_none, Int.toNat_natCast, List.take_length, List.drop_zero, Nat.zero_add, List.nil_append, List.all_nil, List.append_nil, Bool.true_and, Bool.and_true, rowsA_sla, rowsA_sl, rowsA_nil, minus_zero, nat_le_cast, nat_nonneg, Option.isSome_some, Option.isSome_none, Bool.false_eq_true, false_and, and_false, if_true, if_false, implies_true, Int.toNat_zero, Bool.not_false, Bool.not_true, bne_self_eq_false]; done) | (simp only [decide_true, decide_false, eq_self, and_true, true_and, and_self, cond_true, cond_false, Nat.le_refl, Int.le_refl, Option.getD_some, Option.getD_none, Int.toNat_natCast, List.take_length, List.drop_zero, Nat.zero_add, List.nil_append, List.all_nil, List.append_nil, Bool.true_and, Bool.and_true, rowsA_sla, rowsA_sl, rowsA_nil, minus_zero, nat_le_cast, nat_nonneg, Option.isSome_some, Option.isSome_none, Bool.false_eq_true, false_and, and_false, if_true, if_false, implies_true, Int.toNat_zero, Bool.not_false, Bool.not_true, bne_self_eq_false]; rfl))
end Go.Proofs.Ytngghbloijkfoaa
