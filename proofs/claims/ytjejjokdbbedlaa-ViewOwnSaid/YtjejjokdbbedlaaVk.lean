/- The document's Ready, Of, Heads, May: what their loops do. No condition. -/
import Derived.Test.YtjejjokdbbedlaaVg
namespace Go.Proofs.Ytjejjokdbbedlaa
open Go Go.Proofs Go.RowKit Vm
set_option linter.unusedVariables false
set_option linter.unusedSimpArgs false
def rdyS : FSpec where
  D ds := ∃ e t, ds = [pv e, .int .i64 t]
  val ds := match ds with | [.agg e, .int _ t] => some (.bool (rdy t e)) | _ => none
def hdB (M l : List (List DV)) (i : Nat) : Bool :=
  bif (bif decide (frm (l[i]?.getD []) ≥ 0) then decide (frm (l[i]?.getD []) < (M.length : Int)) else false) then decide ((((l.take i).filter (clB 31 (frm (l[i]?.getD [])))).length : Int) < cel (M[(frm (l[i]?.getD [])).toNat]?.getD [])) else false
def S90 (l : List (List DV)) (t : Int) (v : AV) (i : Int) (o1 o2 : Option Ob) : St := St.of [(0, .d (.sla false 7 l)), (1, .d (.int .i64 t)), (5, v), (6, .d (.int .i64 i))] [(26, o1), (50026, o2)]
def E90 (v : AV) (o1 o2 : Option Ob) : St := St.of [(5, v)] [(26, o1), (50026, o2)]
def S100 (l : List (List DV)) (t : Int) (v : AV) (i : Int) (o1 o2 : Option Ob) : St := St.of [(0, .d (.sla false 7 l)), (1, .d (.int .i64 t)), (5, v), (6, .d (.int .i64 i))] [(25, o1), (50025, o2)]
def E100 (v : AV) (o1 o2 : Option Ob) : St := St.of [(5, v)] [(25, o1), (50025, o2)]
def T200 (l M : List (List DV)) (v : AV) (i : Int) (o1 o2 : Option Ob) : St := St.of [(0, .d (.sla false 7 l)), (1, .d (.sla false 1 M)), (5, v), (6, .d (.int .i64 i))] [(58, o1), (50058, o2)]
def U200 (v : AV) (o1 o2 : Option Ob) : St := St.of [(5, v)] [(58, o1), (50058, o2)]
def l90 : LSpec := fun st => match st.env 0, st.env 1 with
  | .d (.sla _ _ l), .d (.int _ t) => collR E90 26 50026 27 7 (l.filter (clB 31 t))
  | _, _ => .no
def l100 : LSpec := fun st => match st.env 0, st.env 1 with
  | .d (.sla _ _ l), .d (.int _ t) => collR E100 25 50025 27 7 (l.filter (clB 29 t))
  | _, _ => .no
def m200 : LSpec := fun st => match st.env 0, st.env 1 with
  | .d (.sla _ _ l), .d (.sla _ _ M) => collR U200 58 50058 27 7 (outN l.length (hdB M l) (rowP l))
  | _, _ => .no
def lR (k : Nat) : Option LSpec := if k = 90 then some l90 else if k = 100 then some l100 else if k = 200 then some m200 else none
noncomputable def spR : FuncId → Option FSpec := spAdd 11 rdyS (spAdd 9 (fltS 31) noSp)
theorem t11 (n : Nat) (e : List DV) (t : Int) : FK tab noSp lsp0 20 (n+12) 11 [pv e, .int .i64 t] =
   (some (DV.bool (bif decide (t ≥ (cellA e 5).toI) then decide (t ≤ (cellA e 6).toI) else false))) :=
  (show FK tab noSp lsp0 20 (n+12) 11 [pv e, .int .i64 t] =
 (some (.bool (bif decide (t ≥ (cellA e 5).toI) then decide (t ≤ (cellA e 6).toI) else false))) from by kernel_rfl).trans (by first | rfl | (simp only [decide_true, decide_false, eq_self, and_true, true_and, and_self, cond_true, cond_false, Nat.le_refl, Int.le_refl, Option.getD_some, Option.getD_none, Int.toNat_natCast, List.take_length, List.drop_zero, Nat.zero_add, List.nil_append, List.all_nil, List.append_nil, Bool.true_and, Bool.and_true, rowsA_sla, rowsA_sl, rowsA_nil, minus_zero, nat_le_cast, nat_nonneg, Option.isSome_some, Option.isSome_none, Bool.false_eq_true, false_and, and_false, if_true, if_false, implies_true, Int.toNat_zero, Bool.not_false, Bool.not_true, bne_self_eq_false]; done) | (simp only [decide_true, decide_false, eq_self, and_true, true_and, and_self, cond_true, cond_false, Nat.le_refl, Int.le_refl, Option.getD_some, Option.getD_none, Int.toNat_natCast, List.take_length, List.drop_zero, Nat.zero_add, List.nil_append, List.all_nil, List.append_nil, Bool.true_and, Bool.and_true, rowsA_sla, rowsA_sl, rowsA_nil, minus_zero, nat_le_cast, nat_nonneg, Option.isSome_some, Option.isSome_none, Bool.false_eq_true, false_and, and_false, if_true, if_false, implies_true, Int.toNat_zero, Bool.not_false, Bool.not_true, bne_self_eq_false]; rfl))
theorem s90A (L n : Nat) (l : List (List DV)) (t : Int) (i : Nat) (k : Kont) : LB tab noSp lR L (n+4) h90 c9l0 (S90 l t (.d .nilsl) i none none) k =
   (bif decide ((↑i : Int) < (↑l.length : Int)) then
 lookK l[i]? fun (e1 : List DV) =>
 bif
 okRow
 [DV.int .i64 0, DV.int .i64 0, DV.int .i64 0, DV.int .i64 0, DV.int .i64 0, DV.int .i64 0, DV.int .i64 0]
 e1 then
 bif (cellA e1 1).toI == t then
 lookK l[i]? fun (e5 : List DV) =>
 bif
 okRow
 [DV.int .i64 0, DV.int .i64 0, DV.int .i64 0, DV.int .i64 0, DV.int .i64 0, DV.int .i64 0, DV.int .i64 0]
 e5 then
 k Ex.nrm
 (St.of
 [(0, AV.d (DV.sla false 7 l)), (1, AV.d (DV.int .i64 t)),
 ((5 : Nat), AV.aref 26 7 0 (1 : Nat)),
 ((6 : Nat), AV.d (DV.int .i64 (IntKind.i64.wrap ((↑i : Int) + (1 : Int)))))]
 [((26 : Nat),
 some
 (Ob.dat 27 7
 [[DV.int .i64 (cellA e5 0).toI, DV.int .i64 (cellA e5 1).toI, DV.int .i64 (cellA e5 2).toI, DV.int .i64 (cellA e5 3).toI, DV.int .i64 (cellA e5 4).toI, DV.int .i64 (cellA e5 5).toI, DV.int .i64 (cellA e5 6).toI]])),
 ((50026 : Nat), none)])
 else none
 else
 k Ex.nrm
 (St.of
 [(0, AV.d (DV.sla false 7 l)), (1, AV.d (DV.int .i64 t)), (5, AV.d DV.nilsl),
 ((6 : Nat), AV.d (DV.int .i64 (IntKind.i64.wrap ((↑i : Int) + (1 : Int)))))]
 [(26, none), (50026, none)])
 else none
 else k (Ex.ex (0 : Nat)) (St.of [(5, AV.d DV.nilsl)] [(26, none), (50026, none)])) :=
  (show LB tab noSp lR L (n+4) h90 c9l0 (S90 l t (.d .nilsl) i none none) k =
 (cond (decide ((↑i : Int) < (↑l.length : Int)))
 (lookK (l[(↑i : Int).toNat]?)
 fun e1 =>
 (cond (okRow [DV.int .i64 0, DV.int .i64 0, DV.int .i64 0, DV.int .i64 0, DV.int .i64 0, DV.int .i64 0, DV.int .i64 0] e1)
 (cond ((cellA e1 1).toI == t)
 (lookK (l[(↑i : Int).toNat]?)
 fun e5 =>
 (cond (okRow [DV.int .i64 0, DV.int .i64 0, DV.int .i64 0, DV.int .i64 0, DV.int .i64 0, DV.int .i64 0, DV.int .i64 0] e5)
 (k .nrm (St.of [(0, (.d (.sla false 7 l))), (1, (.d (.int .i64 t))), (5, (.aref 26 7 0 1)), (6, (.d (.int .i64 (IntKind.i64.wrap ((↑i : Int) + (1 : Int))))))] [(26, (.some (.dat 27 7 [[(.int .i64 ((cellA e5 0).toI)), (.int .i64 ((cellA e5 1).toI)), (.int .i64 ((cellA e5 2).toI)), (.int .i64 ((cellA e5 3).toI)), (.int .i64 ((cellA e5 4).toI)), (.int .i64 ((cellA e5 5).toI)), (.int .i64 ((cellA e5 6).toI))]]))), (50026, .none)]))
 none))
 (k .nrm (St.of [(0, (.d (.sla false 7 l))), (1, (.d (.int .i64 t))), (5, (.d .nilsl)), (6, (.d (.int .i64 (IntKind.i64.wrap ((↑i : Int) + (1 : Int))))))] [(26, .none), (50026, .none)])))
 none))
 (k (.ex 0) (St.of [(5, (.d .nilsl))] [(26, .none), (50026, .none)]))) from by kernel_rfl).trans (by first | rfl | (simp only [decide_true, decide_false, eq_self, and_true, true_and, and_self, cond_true, cond_false, Nat.le_refl, Int.le_refl, Option.getD_some, Option.getD_none, Int.toNat_natCast, List.take_length, List.drop_zero, Nat.zero_add, List.nil_append, List.all_nil, List.append_nil, Bool.true_and, Bool.and_true, rowsA_sla, rowsA_sl, rowsA_nil, minus_zero, nat_le_cast, nat_nonneg, Option.isSome_some, Option.isSome_none, Bool.false_eq_true, false_and, and_false, if_true, if_false, implies_true, Int.toNat_zero, Bool.not_false, Bool.not_true, bne_self_eq_false]; done) | (simp only [decide_true, decide_false, eq_self, and_true, true_and, and_self, cond_true, cond_false, Nat.le_refl, Int.le_refl, Option.getD_some, Option.getD_none, Int.toNat_natCast, List.take_length, List.drop_zero, Nat.zero_add, List.nil_append, List.all_nil, List.append_nil, Bool.true_and, Bool.and_true, rowsA_sla, rowsA_sl, rowsA_nil, minus_zero, nat_le_cast, nat_nonneg, Option.isSome_some, Option.isSome_none, Bool.false_eq_true, false_and, and_false, if_true, if_false, implies_true, Int.toNat_zero, Bool.not_false, Bool.not_true, bne_self_eq_false]; rfl))
theorem s90B (L n : Nat) (l O : List (List DV)) (t : Int) (i : Nat) (k : Kont) : LB tab noSp lR L (n+4) h90 c9l0 (S90 l t (.aref 26 7 0 O.length) i (some (.dat 27 7 O)) none) k =
   (bif decide ((↑i : Int) < (↑l.length : Int)) then
 lookK l[i]? fun (e1 : List DV) =>
 bif
 okRow
 [DV.int .i64 0, DV.int .i64 0, DV.int .i64 0, DV.int .i64 0, DV.int .i64 0, DV.int .i64 0, DV.int .i64 0]
 e1 then
 bif (cellA e1 1).toI == t then
 lookK l[i]? fun (e5 : List DV) =>
 bif
 okRow
 [DV.int .i64 0, DV.int .i64 0, DV.int .i64 0, DV.int .i64 0, DV.int .i64 0, DV.int .i64 0, DV.int .i64 0]
 e5 then
 bif
 decide
 ((O ++
 [[DV.int .i64 (cellA e5 0).toI, DV.int .i64 (cellA e5 1).toI, DV.int .i64 (cellA e5 2).toI, DV.int .i64 (cellA e5 3).toI, DV.int .i64 (cellA e5 4).toI, DV.int .i64 (cellA e5 5).toI, DV.int .i64 (cellA e5 6).toI]]).length *
 (56 : Nat) ≤
 room ∧
 (O ++
 [[DV.int .i64 (cellA e5 0).toI, DV.int .i64 (cellA e5 1).toI, DV.int .i64 (cellA e5 2).toI, DV.int .i64 (cellA e5 3).toI, DV.int .i64 (cellA e5 4).toI, DV.int .i64 (cellA e5 5).toI, DV.int .i64 (cellA e5 6).toI]]).length ≤
 room) then
 k Ex.nrm
 (St.of
 [(0, AV.d (DV.sla false 7 l)), (1, AV.d (DV.int .i64 t)),
 ((5 : Nat),
 AV.aref (alt (26 : Nat) (26 : Nat)) (7 : Nat) (0 : Nat)
 (O ++
 [[DV.int .i64 (cellA e5 0).toI, DV.int .i64 (cellA e5 1).toI, DV.int .i64 (cellA e5 2).toI, DV.int .i64 (cellA e5 3).toI, DV.int .i64 (cellA e5 4).toI, DV.int .i64 (cellA e5 5).toI, DV.int .i64 (cellA e5 6).toI]]).length),
 ((6 : Nat), AV.d (DV.int .i64 (IntKind.i64.wrap ((↑i : Int) + (1 : Int)))))]
 [(26, none),
 ((50026 : Nat),
 some
 (Ob.dat 27 7
 (O ++
 [[DV.int .i64 (cellA e5 0).toI, DV.int .i64 (cellA e5 1).toI, DV.int .i64 (cellA e5 2).toI, DV.int .i64 (cellA e5 3).toI, DV.int .i64 (cellA e5 4).toI, DV.int .i64 (cellA e5 5).toI, DV.int .i64 (cellA e5 6).toI]])))])
 else none
 else none
 else
 k Ex.nrm
 (St.of
 [(0, AV.d (DV.sla false 7 l)), (1, AV.d (DV.int .i64 t)),
 ((5 : Nat), AV.aref 26 7 0 O.length),
 ((6 : Nat), AV.d (DV.int .i64 (IntKind.i64.wrap ((↑i : Int) + (1 : Int)))))]
 [(26, some (Ob.dat 27 7 O)), (50026, none)])
 else none
 else
 k (Ex.ex (0 : Nat))
 (St.of [(5, AV.aref 26 7 0 O.length)] [(26, some (Ob.dat 27 7 O)), (50026, none)])) :=
  (show LB tab noSp lR L (n+4) h90 c9l0 (S90 l t (.aref 26 7 0 O.length) i (some (.dat 27 7 O)) none) k =
 (cond (decide ((↑i : Int) < (↑l.length : Int)))
 (lookK (l[(↑i : Int).toNat]?)
 fun e1 =>
 (cond (okRow [DV.int .i64 0, DV.int .i64 0, DV.int .i64 0, DV.int .i64 0, DV.int .i64 0, DV.int .i64 0, DV.int .i64 0] e1)
 (cond ((cellA e1 1).toI == t)
 (lookK (l[(↑i : Int).toNat]?)
 fun e5 =>
 (cond (okRow [DV.int .i64 0, DV.int .i64 0, DV.int .i64 0, DV.int .i64 0, DV.int .i64 0, DV.int .i64 0, DV.int .i64 0] e5)
 (cond (decide ((27 : TypeId) = (27 : Nat) ∧ (7 : Nat) = (7 : Nat) ∧ (7 : Nat) = (7 : Nat) ∧ (0 : Nat) = (0 : Nat) ∧ O.length = O.length ∧ (O ++ [[DV.int .i64 (cellA e5 0).toI, DV.int .i64 (cellA e5 1).toI, DV.int .i64 (cellA e5 2).toI, DV.int .i64 (cellA e5 3).toI, DV.int .i64 (cellA e5 4).toI, DV.int .i64 (cellA e5 5).toI, DV.int .i64 (cellA e5 6).toI]]).length * (56 : Nat) ≤ room ∧ (O ++ [[DV.int .i64 (cellA e5 0).toI, DV.int .i64 (cellA e5 1).toI, DV.int .i64 (cellA e5 2).toI, DV.int .i64 (cellA e5 3).toI, DV.int .i64 (cellA e5 4).toI, DV.int .i64 (cellA e5 5).toI, DV.int .i64 (cellA e5 6).toI]]).length ≤ room))
 (k .nrm (St.of [(0, (.d (.sla false 7 l))), (1, (.d (.int .i64 t))), (5, (.aref (alt 26 26) 7 0 ((O ++ [[DV.int .i64 (cellA e5 0).toI, DV.int .i64 (cellA e5 1).toI, DV.int .i64 (cellA e5 2).toI, DV.int .i64 (cellA e5 3).toI, DV.int .i64 (cellA e5 4).toI, DV.int .i64 (cellA e5 5).toI, DV.int .i64 (cellA e5 6).toI]]).length))), (6, (.d (.int .i64 (IntKind.i64.wrap ((↑i : Int) + (1 : Int))))))] [(26, .none), (50026, (.some (.dat 27 7 (O ++ [[DV.int .i64 (cellA e5 0).toI, DV.int .i64 (cellA e5 1).toI, DV.int .i64 (cellA e5 2).toI, DV.int .i64 (cellA e5 3).toI, DV.int .i64 (cellA e5 4).toI, DV.int .i64 (cellA e5 5).toI, DV.int .i64 (cellA e5 6).toI]]))))]))
 none)
 none))
 (k .nrm (St.of [(0, (.d (.sla false 7 l))), (1, (.d (.int .i64 t))), (5, (.aref 26 7 0 (O.length))), (6, (.d (.int .i64 (IntKind.i64.wrap ((↑i : Int) + (1 : Int))))))] [(26, (.some (.dat 27 7 O))), (50026, .none)])))
 none))
 (k (.ex 0) (St.of [(5, (.aref 26 7 0 (O.length)))] [(26, (.some (.dat 27 7 O))), (50026, .none)]))) from by kernel_rfl).trans (by first | rfl | (simp only [decide_true, decide_false, eq_self, and_true, true_and, and_self, cond_true, cond_false, Nat.le_refl, Int.le_refl, Option.getD_some, Option.getD_none, Int.toNat_natCast, List.take_length, List.drop_zero, Nat.zero_add, List.nil_append, List.all_nil, List.append_nil, Bool.true_and, Bool.and_true, rowsA_sla, rowsA_sl, rowsA_nil, minus_zero, nat_le_cast, nat_nonneg, Option.isSome_some, Option.isSome_none, Bool.false_eq_true, false_and, and_false, if_true, if_false, implies_true, Int.toNat_zero, Bool.not_false, Bool.not_true, bne_self_eq_false]; done) | (simp only [decide_true, decide_false, eq_self, and_true, true_and, and_self, cond_true, cond_false, Nat.le_refl, Int.le_refl, Option.getD_some, Option.getD_none, Int.toNat_natCast, List.take_length, List.drop_zero, Nat.zero_add, List.nil_append, List.all_nil, List.append_nil, Bool.true_and, Bool.and_true, rowsA_sla, rowsA_sl, rowsA_nil, minus_zero, nat_le_cast, nat_nonneg, Option.isSome_some, Option.isSome_none, Bool.false_eq_true, false_and, and_false, if_true, if_false, implies_true, Int.toNat_zero, Bool.not_false, Bool.not_true, bne_self_eq_false]; rfl))
theorem s90C (L n : Nat) (l O : List (List DV)) (t : Int) (i : Nat) (k : Kont) : LB tab noSp lR L (n+4) h90 c9l0 (S90 l t (.aref 50026 7 0 O.length) i none (some (.dat 27 7 O))) k =
   (bif decide ((↑i : Int) < (↑l.length : Int)) then
 lookK l[i]? fun (e1 : List DV) =>
 bif
 okRow
 [DV.int .i64 0, DV.int .i64 0, DV.int .i64 0, DV.int .i64 0, DV.int .i64 0, DV.int .i64 0, DV.int .i64 0]
 e1 then
 bif (cellA e1 1).toI == t then
 lookK l[i]? fun (e5 : List DV) =>
 bif
 okRow
 [DV.int .i64 0, DV.int .i64 0, DV.int .i64 0, DV.int .i64 0, DV.int .i64 0, DV.int .i64 0, DV.int .i64 0]
 e5 then
 bif
 decide
 ((O ++
 [[DV.int .i64 (cellA e5 0).toI, DV.int .i64 (cellA e5 1).toI, DV.int .i64 (cellA e5 2).toI, DV.int .i64 (cellA e5 3).toI, DV.int .i64 (cellA e5 4).toI, DV.int .i64 (cellA e5 5).toI, DV.int .i64 (cellA e5 6).toI]]).length *
 (56 : Nat) ≤
 room ∧
 (O ++
 [[DV.int .i64 (cellA e5 0).toI, DV.int .i64 (cellA e5 1).toI, DV.int .i64 (cellA e5 2).toI, DV.int .i64 (cellA e5 3).toI, DV.int .i64 (cellA e5 4).toI, DV.int .i64 (cellA e5 5).toI, DV.int .i64 (cellA e5 6).toI]]).length ≤
 room) then
 k Ex.nrm
 (St.of
 [(0, AV.d (DV.sla false 7 l)), (1, AV.d (DV.int .i64 t)),
 ((5 : Nat),
 AV.aref (alt (50026 : Nat) (26 : Nat)) (7 : Nat) (0 : Nat)
 (O ++
 [[DV.int .i64 (cellA e5 0).toI, DV.int .i64 (cellA e5 1).toI, DV.int .i64 (cellA e5 2).toI, DV.int .i64 (cellA e5 3).toI, DV.int .i64 (cellA e5 4).toI, DV.int .i64 (cellA e5 5).toI, DV.int .i64 (cellA e5 6).toI]]).length),
 ((6 : Nat), AV.d (DV.int .i64 (IntKind.i64.wrap ((↑i : Int) + (1 : Int)))))]
 [((26 : Nat),
 some
 (Ob.dat 27 7
 (O ++
 [[DV.int .i64 (cellA e5 0).toI, DV.int .i64 (cellA e5 1).toI, DV.int .i64 (cellA e5 2).toI, DV.int .i64 (cellA e5 3).toI, DV.int .i64 (cellA e5 4).toI, DV.int .i64 (cellA e5 5).toI, DV.int .i64 (cellA e5 6).toI]]))),
 ((50026 : Nat), none)])
 else none
 else none
 else
 k Ex.nrm
 (St.of
 [(0, AV.d (DV.sla false 7 l)), (1, AV.d (DV.int .i64 t)),
 ((5 : Nat), AV.aref 50026 7 0 O.length),
 ((6 : Nat), AV.d (DV.int .i64 (IntKind.i64.wrap ((↑i : Int) + (1 : Int)))))]
 [(26, none), (50026, some (Ob.dat 27 7 O))])
 else none
 else
 k (Ex.ex (0 : Nat))
 (St.of [(5, AV.aref 50026 7 0 O.length)] [(26, none), (50026, some (Ob.dat 27 7 O))])) :=
  (show LB tab noSp lR L (n+4) h90 c9l0 (S90 l t (.aref 50026 7 0 O.length) i none (some (.dat 27 7 O))) k =
 (cond (decide ((↑i : Int) < (↑l.length : Int)))
 (lookK (l[(↑i : Int).toNat]?)
 fun e1 =>
 (cond (okRow [DV.int .i64 0, DV.int .i64 0, DV.int .i64 0, DV.int .i64 0, DV.int .i64 0, DV.int .i64 0, DV.int .i64 0] e1)
 (cond ((cellA e1 1).toI == t)
 (lookK (l[(↑i : Int).toNat]?)
 fun e5 =>
 (cond (okRow [DV.int .i64 0, DV.int .i64 0, DV.int .i64 0, DV.int .i64 0, DV.int .i64 0, DV.int .i64 0, DV.int .i64 0] e5)
 (cond (decide ((27 : TypeId) = (27 : Nat) ∧ (7 : Nat) = (7 : Nat) ∧ (7 : Nat) = (7 : Nat) ∧ (0 : Nat) = (0 : Nat) ∧ O.length = O.length ∧ (O ++ [[DV.int .i64 (cellA e5 0).toI, DV.int .i64 (cellA e5 1).toI, DV.int .i64 (cellA e5 2).toI, DV.int .i64 (cellA e5 3).toI, DV.int .i64 (cellA e5 4).toI, DV.int .i64 (cellA e5 5).toI, DV.int .i64 (cellA e5 6).toI]]).length * (56 : Nat) ≤ room ∧ (O ++ [[DV.int .i64 (cellA e5 0).toI, DV.int .i64 (cellA e5 1).toI, DV.int .i64 (cellA e5 2).toI, DV.int .i64 (cellA e5 3).toI, DV.int .i64 (cellA e5 4).toI, DV.int .i64 (cellA e5 5).toI, DV.int .i64 (cellA e5 6).toI]]).length ≤ room))
 (k .nrm (St.of [(0, (.d (.sla false 7 l))), (1, (.d (.int .i64 t))), (5, (.aref (alt 50026 26) 7 0 ((O ++ [[DV.int .i64 (cellA e5 0).toI, DV.int .i64 (cellA e5 1).toI, DV.int .i64 (cellA e5 2).toI, DV.int .i64 (cellA e5 3).toI, DV.int .i64 (cellA e5 4).toI, DV.int .i64 (cellA e5 5).toI, DV.int .i64 (cellA e5 6).toI]]).length))), (6, (.d (.int .i64 (IntKind.i64.wrap ((↑i : Int) + (1 : Int))))))] [(26, (.some (.dat 27 7 (O ++ [[DV.int .i64 (cellA e5 0).toI, DV.int .i64 (cellA e5 1).toI, DV.int .i64 (cellA e5 2).toI, DV.int .i64 (cellA e5 3).toI, DV.int .i64 (cellA e5 4).toI, DV.int .i64 (cellA e5 5).toI, DV.int .i64 (cellA e5 6).toI]])))), (50026, .none)]))
 none)
 none))
 (k .nrm (St.of [(0, (.d (.sla false 7 l))), (1, (.d (.int .i64 t))), (5, (.aref 50026 7 0 (O.length))), (6, (.d (.int .i64 (IntKind.i64.wrap ((↑i : Int) + (1 : Int))))))] [(26, .none), (50026, (.some (.dat 27 7 O)))])))
 none))
 (k (.ex 0) (St.of [(5, (.aref 50026 7 0 (O.length)))] [(26, .none), (50026, (.some (.dat 27 7 O)))]))) from by kernel_rfl).trans (by first | rfl | (simp only [decide_true, decide_false, eq_self, and_true, true_and, and_self, cond_true, cond_false, Nat.le_refl, Int.le_refl, Option.getD_some, Option.getD_none, Int.toNat_natCast, List.take_length, List.drop_zero, Nat.zero_add, List.nil_append, List.all_nil, List.append_nil, Bool.true_and, Bool.and_true, rowsA_sla, rowsA_sl, rowsA_nil, minus_zero, nat_le_cast, nat_nonneg, Option.isSome_some, Option.isSome_none, Bool.false_eq_true, false_and, and_false, if_true, if_false, implies_true, Int.toNat_zero, Bool.not_false, Bool.not_true, bne_self_eq_false]; done) | (simp only [decide_true, decide_false, eq_self, and_true, true_and, and_self, cond_true, cond_false, Nat.le_refl, Int.le_refl, Option.getD_some, Option.getD_none, Int.toNat_natCast, List.take_length, List.drop_zero, Nat.zero_add, List.nil_append, List.all_nil, List.append_nil, Bool.true_and, Bool.and_true, rowsA_sla, rowsA_sl, rowsA_nil, minus_zero, nat_le_cast, nat_nonneg, Option.isSome_some, Option.isSome_none, Bool.false_eq_true, false_and, and_false, if_true, if_false, implies_true, Int.toNat_zero, Bool.not_false, Bool.not_true, bne_self_eq_false]; rfl))
theorem t9 (n : Nat) (l : List (List DV)) (t : Int) : FK tab noSp lR 20 (n+8) 9 [.sla false 7 l, .int .i64 t] =
   (bif (List.filter (clB (31 : FuncId) t) l).isEmpty then
 need
 (LoopOk (LB tab noSp lR (20 : Nat) (n + (8 : Nat)) h90 c9l0)
 (St.of
 [(0, AV.d (DV.sla false 7 l)), (1, AV.d (DV.int .i64 t)), (5, AV.d DV.nilsl),
 ((6 : Nat), AV.d (DV.int .i64 0))]
 [(26, none), (50026, none)])
 (Ex.ex (0 : Nat), St.of [(5, AV.d DV.nilsl)] [(26, none), (50026, none)]))
 (some DV.nilsl)
 else
 bif parB ((List.filter (clB (31 : FuncId) t) l).length - (1 : Nat)) then
 need
 (LoopOk (LB tab noSp lR (20 : Nat) (n + (8 : Nat)) h90 c9l0)
 (St.of
 [(0, AV.d (DV.sla false 7 l)), (1, AV.d (DV.int .i64 t)), (5, AV.d DV.nilsl),
 ((6 : Nat), AV.d (DV.int .i64 0))]
 [(26, none), (50026, none)])
 (Ex.ex (0 : Nat),
 St.of [(5, AV.aref 26 7 0 (List.filter (clB (31 : FuncId) t) l).length)]
 [(26, some (Ob.dat 27 7 (List.filter (clB (31 : FuncId) t) l))), (50026, none)]))
 (some (DV.sl (SK.own (27 : Nat)) (7 : Nat) (List.filter (clB (31 : FuncId) t) l)))
 else
 need
 (LoopOk (LB tab noSp lR (20 : Nat) (n + (8 : Nat)) h90 c9l0)
 (St.of
 [(0, AV.d (DV.sla false 7 l)), (1, AV.d (DV.int .i64 t)), (5, AV.d DV.nilsl),
 ((6 : Nat), AV.d (DV.int .i64 0))]
 [(26, none), (50026, none)])
 (Ex.ex (0 : Nat),
 St.of [(5, AV.aref 50026 7 0 (List.filter (clB (31 : FuncId) t) l).length)]
 [(26, none), (50026, some (Ob.dat 27 7 (List.filter (clB (31 : FuncId) t) l)))]))
 (some (DV.sl (SK.own (27 : Nat)) (7 : Nat) (List.filter (clB (31 : FuncId) t) l)))) :=
  (show FK tab noSp lR 20 (n+8) 9 [.sla false 7 l, .int .i64 t] =
 (cond ((List.filter (clB (31 : FuncId) t) l).isEmpty)
 (need (LoopOk (LB tab noSp lR ((20 : Nat)) (n + (8 : Nat)) h90 c9l0) (St.of [(0, (.d (.sla false 7 l))), (1, (.d (.int .i64 t))), (5, (.d .nilsl)), (6, (.d (.int .i64 ((0 : Int)))))] [(26, .none), (50026, .none)]) ((.ex 0), (St.of [(5, (.d .nilsl))] [(26, .none), (50026, .none)])))
 (some .nilsl))
 (cond (parB ((List.filter (clB (31 : FuncId) t) l).length - (1 : Nat)))
 (need (LoopOk (LB tab noSp lR ((20 : Nat)) (n + (8 : Nat)) h90 c9l0) (St.of [(0, (.d (.sla false 7 l))), (1, (.d (.int .i64 t))), (5, (.d .nilsl)), (6, (.d (.int .i64 ((0 : Int)))))] [(26, .none), (50026, .none)]) ((.ex 0), (St.of [(5, (.aref 26 7 0 ((List.filter (clB 31 t) l).length)))] [(26, (.some (.dat 27 7 (List.filter (clB (31 : FuncId) t) l)))), (50026, .none)])))
 (cond (decide ((List.filter (clB (31 : FuncId) t) l).length = (List.filter (clB (31 : FuncId) t) l).length))
 (some (.sl (SK.own (27 : Nat)) 7 (List.filter (clB (31 : FuncId) t) l)))
 (cond (decide ((0 : Nat) + (List.filter (clB (31 : FuncId) t) l).length ≤ (List.filter (clB (31 : FuncId) t) l).length))
 (some (.sl (SK.ro) 7 (List.take (List.filter (clB (31 : FuncId) t) l).length (List.filter (clB (31 : FuncId) t) l))))
 none)))
 (need (LoopOk (LB tab noSp lR ((20 : Nat)) (n + (8 : Nat)) h90 c9l0) (St.of [(0, (.d (.sla false 7 l))), (1, (.d (.int .i64 t))), (5, (.d .nilsl)), (6, (.d (.int .i64 ((0 : Int)))))] [(26, .none), (50026, .none)]) ((.ex 0), (St.of [(5, (.aref 50026 7 0 ((List.filter (clB 31 t) l).length)))] [(26, .none), (50026, (.some (.dat 27 7 (List.filter (clB (31 : FuncId) t) l))))])))
 (cond (decide ((List.filter (clB (31 : FuncId) t) l).length = (List.filter (clB (31 : FuncId) t) l).length))
 (some (.sl (SK.own (27 : Nat)) 7 (List.filter (clB (31 : FuncId) t) l)))
 (cond (decide ((0 : Nat) + (List.filter (clB (31 : FuncId) t) l).length ≤ (List.filter (clB (31 : FuncId) t) l).length))
 (some (.sl (SK.ro) 7 (List.take (List.filter (clB (31 : FuncId) t) l).length (List.filter (clB (31 : FuncId) t) l))))
 none))))) from by kernel_rfl).trans (by first | rfl | (simp only [decide_true, decide_false, eq_self, and_true, true_and, and_self, cond_true, cond_false, Nat.le_refl, Int.le_refl, Option.getD_some, Option.getD_none, Int.toNat_natCast, List.take_length, List.drop_zero, Nat.zero_add, List.nil_append, List.all_nil, List.append_nil, Bool.true_and, Bool.and_true, rowsA_sla, rowsA_sl, rowsA_nil, minus_zero, nat_le_cast, nat_nonneg, Option.isSome_some, Option.isSome_none, Bool.false_eq_true, false_and, and_false, if_true, if_false, implies_true, Int.toNat_zero, Bool.not_false, Bool.not_true, bne_self_eq_false]; done) | (simp only [decide_true, decide_false, eq_self, and_true, true_and, and_self, cond_true, cond_false, Nat.le_refl, Int.le_refl, Option.getD_some, Option.getD_none, Int.toNat_natCast, List.take_length, List.drop_zero, Nat.zero_add, List.nil_append, List.all_nil, List.append_nil, Bool.true_and, Bool.and_true, rowsA_sla, rowsA_sl, rowsA_nil, minus_zero, nat_le_cast, nat_nonneg, Option.isSome_some, Option.isSome_none, Bool.false_eq_true, false_and, and_false, if_true, if_false, implies_true, Int.toNat_zero, Bool.not_false, Bool.not_true, bne_self_eq_false]; rfl))
theorem s100A (L n : Nat) (l : List (List DV)) (t : Int) (i : Nat) (k : Kont) : LB tab spR lR L (n+4) h100 c10l0 (S100 l t (.d .nilsl) i none none) k =
   (bif decide ((↑i : Int) < (↑l.length : Int)) then
 lookK l[i]? fun (e1 : List DV) =>
 bif
 okRow
 [DV.int .i64 0, DV.int .i64 0, DV.int .i64 0, DV.int .i64 0, DV.int .i64 0, DV.int .i64 0, DV.int .i64 0]
 e1 then
 need
 (rdyS.D
 [DV.agg
 [DV.int .i64 (cellA e1 0).toI, DV.int .i64 (cellA e1 1).toI, DV.int .i64 (cellA e1 2).toI, DV.int .i64 (cellA e1 3).toI, DV.int .i64 (cellA e1 4).toI, DV.int .i64 (cellA e1 5).toI, DV.int .i64 (cellA e1 6).toI], DV.int .i64 t])
 (bif
 rdy t
 [DV.int .i64 (cellA e1 0).toI, DV.int .i64 (cellA e1 1).toI, DV.int .i64 (cellA e1 2).toI, DV.int .i64 (cellA e1 3).toI, DV.int .i64 (cellA e1 4).toI, DV.int .i64 (cellA e1 5).toI, DV.int .i64 (cellA e1 6).toI] then
 lookK l[i]? fun (e6 : List DV) =>
 bif
 okRow
 [DV.int .i64 0, DV.int .i64 0, DV.int .i64 0, DV.int .i64 0, DV.int .i64 0, DV.int .i64 0, DV.int .i64 0]
 e6 then
 k Ex.nrm
 (St.of
 [(0, AV.d (DV.sla false 7 l)), (1, AV.d (DV.int .i64 t)),
 ((5 : Nat), AV.aref 25 7 0 (1 : Nat)),
 ((6 : Nat), AV.d (DV.int .i64 (IntKind.i64.wrap ((↑i : Int) + (1 : Int)))))]
 [((25 : Nat),
 some
 (Ob.dat 27 7
 [[DV.int .i64 (cellA e6 0).toI, DV.int .i64 (cellA e6 1).toI, DV.int .i64 (cellA e6 2).toI, DV.int .i64 (cellA e6 3).toI, DV.int .i64 (cellA e6 4).toI, DV.int .i64 (cellA e6 5).toI, DV.int .i64 (cellA e6 6).toI]])),
 ((50025 : Nat), none)])
 else none
 else
 k Ex.nrm
 (St.of
 [(0, AV.d (DV.sla false 7 l)), (1, AV.d (DV.int .i64 t)), (5, AV.d DV.nilsl),
 ((6 : Nat), AV.d (DV.int .i64 (IntKind.i64.wrap ((↑i : Int) + (1 : Int)))))]
 [(25, none), (50025, none)]))
 else none
 else k (Ex.ex (0 : Nat)) (St.of [(5, AV.d DV.nilsl)] [(25, none), (50025, none)])) :=
  (show LB tab spR lR L (n+4) h100 c10l0 (S100 l t (.d .nilsl) i none none) k =
 (cond (decide ((↑i : Int) < (↑l.length : Int)))
 (lookK (l[(↑i : Int).toNat]?)
 fun e1 =>
 (cond (okRow [DV.int .i64 0, DV.int .i64 0, DV.int .i64 0, DV.int .i64 0, DV.int .i64 0, DV.int .i64 0, DV.int .i64 0] e1)
 (need (FSpec.D (rdyS) [(.agg [(.int .i64 ((cellA e1 0).toI)), (.int .i64 ((cellA e1 1).toI)), (.int .i64 ((cellA e1 2).toI)), (.int .i64 ((cellA e1 3).toI)), (.int .i64 ((cellA e1 4).toI)), (.int .i64 ((cellA e1 5).toI)), (.int .i64 ((cellA e1 6).toI))]), (.int .i64 t)])
 (cond (rdy t [DV.int .i64 (cellA e1 0).toI, DV.int .i64 (cellA e1 1).toI, DV.int .i64 (cellA e1 2).toI, DV.int .i64 (cellA e1 3).toI, DV.int .i64 (cellA e1 4).toI, DV.int .i64 (cellA e1 5).toI, DV.int .i64 (cellA e1 6).toI])
 (lookK (l[(↑i : Int).toNat]?)
 fun e6 =>
 (cond (okRow [DV.int .i64 0, DV.int .i64 0, DV.int .i64 0, DV.int .i64 0, DV.int .i64 0, DV.int .i64 0, DV.int .i64 0] e6)
 (k .nrm (St.of [(0, (.d (.sla false 7 l))), (1, (.d (.int .i64 t))), (5, (.aref 25 7 0 1)), (6, (.d (.int .i64 (IntKind.i64.wrap ((↑i : Int) + (1 : Int))))))] [(25, (.some (.dat 27 7 [[(.int .i64 ((cellA e6 0).toI)), (.int .i64 ((cellA e6 1).toI)), (.int .i64 ((cellA e6 2).toI)), (.int .i64 ((cellA e6 3).toI)), (.int .i64 ((cellA e6 4).toI)), (.int .i64 ((cellA e6 5).toI)), (.int .i64 ((cellA e6 6).toI))]]))), (50025, .none)]))
 none))
 (k .nrm (St.of [(0, (.d (.sla false 7 l))), (1, (.d (.int .i64 t))), (5, (.d .nilsl)), (6, (.d (.int .i64 (IntKind.i64.wrap ((↑i : Int) + (1 : Int))))))] [(25, .none), (50025, .none)]))))
 none))
 (k (.ex 0) (St.of [(5, (.d .nilsl))] [(25, .none), (50025, .none)]))) from by kernel_rfl).trans (by first | rfl | (simp only [decide_true, decide_false, eq_self, and_true, true_and, and_self, cond_true, cond_false, Nat.le_refl, Int.le_refl, Option.getD_some, Option.getD_none, Int.toNat_natCast, List.take_length, List.drop_zero, Nat.zero_add, List.nil_append, List.all_nil, List.append_nil, Bool.true_and, Bool.and_true, rowsA_sla, rowsA_sl, rowsA_nil, minus_zero, nat_le_cast, nat_nonneg, Option.isSome_some, Option.isSome_none, Bool.false_eq_true, false_and, and_false, if_true, if_false, implies_true, Int.toNat_zero, Bool.not_false, Bool.not_true, bne_self_eq_false]; done) | (simp only [decide_true, decide_false, eq_self, and_true, true_and, and_self, cond_true, cond_false, Nat.le_refl, Int.le_refl, Option.getD_some, Option.getD_none, Int.toNat_natCast, List.take_length, List.drop_zero, Nat.zero_add, List.nil_append, List.all_nil, List.append_nil, Bool.true_and, Bool.and_true, rowsA_sla, rowsA_sl, rowsA_nil, minus_zero, nat_le_cast, nat_nonneg, Option.isSome_some, Option.isSome_none, Bool.false_eq_true, false_and, and_false, if_true, if_false, implies_true, Int.toNat_zero, Bool.not_false, Bool.not_true, bne_self_eq_false]; rfl))
theorem s100B (L n : Nat) (l O : List (List DV)) (t : Int) (i : Nat) (k : Kont) : LB tab spR lR L (n+4) h100 c10l0 (S100 l t (.aref 25 7 0 O.length) i (some (.dat 27 7 O)) none) k =
   (bif decide ((↑i : Int) < (↑l.length : Int)) then
 lookK l[i]? fun (e1 : List DV) =>
 bif
 okRow
 [DV.int .i64 0, DV.int .i64 0, DV.int .i64 0, DV.int .i64 0, DV.int .i64 0, DV.int .i64 0, DV.int .i64 0]
 e1 then
 need
 (rdyS.D
 [DV.agg
 [DV.int .i64 (cellA e1 0).toI, DV.int .i64 (cellA e1 1).toI, DV.int .i64 (cellA e1 2).toI, DV.int .i64 (cellA e1 3).toI, DV.int .i64 (cellA e1 4).toI, DV.int .i64 (cellA e1 5).toI, DV.int .i64 (cellA e1 6).toI], DV.int .i64 t])
 (bif
 rdy t
 [DV.int .i64 (cellA e1 0).toI, DV.int .i64 (cellA e1 1).toI, DV.int .i64 (cellA e1 2).toI, DV.int .i64 (cellA e1 3).toI, DV.int .i64 (cellA e1 4).toI, DV.int .i64 (cellA e1 5).toI, DV.int .i64 (cellA e1 6).toI] then
 lookK l[i]? fun (e6 : List DV) =>
 bif
 okRow
 [DV.int .i64 0, DV.int .i64 0, DV.int .i64 0, DV.int .i64 0, DV.int .i64 0, DV.int .i64 0, DV.int .i64 0]
 e6 then
 bif
 decide
 ((O ++
 [[DV.int .i64 (cellA e6 0).toI, DV.int .i64 (cellA e6 1).toI, DV.int .i64 (cellA e6 2).toI, DV.int .i64 (cellA e6 3).toI, DV.int .i64 (cellA e6 4).toI, DV.int .i64 (cellA e6 5).toI, DV.int .i64 (cellA e6 6).toI]]).length *
 (56 : Nat) ≤
 room ∧
 (O ++
 [[DV.int .i64 (cellA e6 0).toI, DV.int .i64 (cellA e6 1).toI, DV.int .i64 (cellA e6 2).toI, DV.int .i64 (cellA e6 3).toI, DV.int .i64 (cellA e6 4).toI, DV.int .i64 (cellA e6 5).toI, DV.int .i64 (cellA e6 6).toI]]).length ≤
 room) then
 k Ex.nrm
 (St.of
 [(0, AV.d (DV.sla false 7 l)), (1, AV.d (DV.int .i64 t)),
 ((5 : Nat),
 AV.aref (alt (25 : Nat) (25 : Nat)) (7 : Nat) (0 : Nat)
 (O ++
 [[DV.int .i64 (cellA e6 0).toI, DV.int .i64 (cellA e6 1).toI, DV.int .i64 (cellA e6 2).toI, DV.int .i64 (cellA e6 3).toI, DV.int .i64 (cellA e6 4).toI, DV.int .i64 (cellA e6 5).toI, DV.int .i64 (cellA e6 6).toI]]).length),
 ((6 : Nat), AV.d (DV.int .i64 (IntKind.i64.wrap ((↑i : Int) + (1 : Int)))))]
 [(25, none),
 ((50025 : Nat),
 some
 (Ob.dat 27 7
 (O ++
 [[DV.int .i64 (cellA e6 0).toI, DV.int .i64 (cellA e6 1).toI, DV.int .i64 (cellA e6 2).toI, DV.int .i64 (cellA e6 3).toI, DV.int .i64 (cellA e6 4).toI, DV.int .i64 (cellA e6 5).toI, DV.int .i64 (cellA e6 6).toI]])))])
 else none
 else none
 else
 k Ex.nrm
 (St.of
 [(0, AV.d (DV.sla false 7 l)), (1, AV.d (DV.int .i64 t)),
 ((5 : Nat), AV.aref 25 7 0 O.length),
 ((6 : Nat), AV.d (DV.int .i64 (IntKind.i64.wrap ((↑i : Int) + (1 : Int)))))]
 [(25, some (Ob.dat 27 7 O)), (50025, none)]))
 else none
 else
 k (Ex.ex (0 : Nat))
 (St.of [(5, AV.aref 25 7 0 O.length)] [(25, some (Ob.dat 27 7 O)), (50025, none)])) :=
  (show LB tab spR lR L (n+4) h100 c10l0 (S100 l t (.aref 25 7 0 O.length) i (some (.dat 27 7 O)) none) k =
 (cond (decide ((↑i : Int) < (↑l.length : Int)))
 (lookK (l[(↑i : Int).toNat]?)
 fun e1 =>
 (cond (okRow [DV.int .i64 0, DV.int .i64 0, DV.int .i64 0, DV.int .i64 0, DV.int .i64 0, DV.int .i64 0, DV.int .i64 0] e1)
 (need (FSpec.D (rdyS) [(.agg [(.int .i64 ((cellA e1 0).toI)), (.int .i64 ((cellA e1 1).toI)), (.int .i64 ((cellA e1 2).toI)), (.int .i64 ((cellA e1 3).toI)), (.int .i64 ((cellA e1 4).toI)), (.int .i64 ((cellA e1 5).toI)), (.int .i64 ((cellA e1 6).toI))]), (.int .i64 t)])
 (cond (rdy t [DV.int .i64 (cellA e1 0).toI, DV.int .i64 (cellA e1 1).toI, DV.int .i64 (cellA e1 2).toI, DV.int .i64 (cellA e1 3).toI, DV.int .i64 (cellA e1 4).toI, DV.int .i64 (cellA e1 5).toI, DV.int .i64 (cellA e1 6).toI])
 (lookK (l[(↑i : Int).toNat]?)
 fun e6 =>
 (cond (okRow [DV.int .i64 0, DV.int .i64 0, DV.int .i64 0, DV.int .i64 0, DV.int .i64 0, DV.int .i64 0, DV.int .i64 0] e6)
 (cond (decide ((27 : TypeId) = (27 : Nat) ∧ (7 : Nat) = (7 : Nat) ∧ (7 : Nat) = (7 : Nat) ∧ (0 : Nat) = (0 : Nat) ∧ O.length = O.length ∧ (O ++ [[DV.int .i64 (cellA e6 0).toI, DV.int .i64 (cellA e6 1).toI, DV.int .i64 (cellA e6 2).toI, DV.int .i64 (cellA e6 3).toI, DV.int .i64 (cellA e6 4).toI, DV.int .i64 (cellA e6 5).toI, DV.int .i64 (cellA e6 6).toI]]).length * (56 : Nat) ≤ room ∧ (O ++ [[DV.int .i64 (cellA e6 0).toI, DV.int .i64 (cellA e6 1).toI, DV.int .i64 (cellA e6 2).toI, DV.int .i64 (cellA e6 3).toI, DV.int .i64 (cellA e6 4).toI, DV.int .i64 (cellA e6 5).toI, DV.int .i64 (cellA e6 6).toI]]).length ≤ room))
 (k .nrm (St.of [(0, (.d (.sla false 7 l))), (1, (.d (.int .i64 t))), (5, (.aref (alt 25 25) 7 0 ((O ++ [[DV.int .i64 (cellA e6 0).toI, DV.int .i64 (cellA e6 1).toI, DV.int .i64 (cellA e6 2).toI, DV.int .i64 (cellA e6 3).toI, DV.int .i64 (cellA e6 4).toI, DV.int .i64 (cellA e6 5).toI, DV.int .i64 (cellA e6 6).toI]]).length))), (6, (.d (.int .i64 (IntKind.i64.wrap ((↑i : Int) + (1 : Int))))))] [(25, .none), (50025, (.some (.dat 27 7 (O ++ [[DV.int .i64 (cellA e6 0).toI, DV.int .i64 (cellA e6 1).toI, DV.int .i64 (cellA e6 2).toI, DV.int .i64 (cellA e6 3).toI, DV.int .i64 (cellA e6 4).toI, DV.int .i64 (cellA e6 5).toI, DV.int .i64 (cellA e6 6).toI]]))))]))
 none)
 none))
 (k .nrm (St.of [(0, (.d (.sla false 7 l))), (1, (.d (.int .i64 t))), (5, (.aref 25 7 0 (O.length))), (6, (.d (.int .i64 (IntKind.i64.wrap ((↑i : Int) + (1 : Int))))))] [(25, (.some (.dat 27 7 O))), (50025, .none)]))))
 none))
 (k (.ex 0) (St.of [(5, (.aref 25 7 0 (O.length)))] [(25, (.some (.dat 27 7 O))), (50025, .none)]))) from by kernel_rfl).trans (by first | rfl | (simp only [decide_true, decide_false, eq_self, and_true, true_and, and_self, cond_true, cond_false, Nat.le_refl, Int.le_refl, Option.getD_some, Option.getD_none, Int.toNat_natCast, List.take_length, List.drop_zero, Nat.zero_add, List.nil_append, List.all_nil, List.append_nil, Bool.true_and, Bool.and_true, rowsA_sla, rowsA_sl, rowsA_nil, minus_zero, nat_le_cast, nat_nonneg, Option.isSome_some, Option.isSome_none, Bool.false_eq_true, false_and, and_false, if_true, if_false, implies_true, Int.toNat_zero, Bool.not_false, Bool.not_true, bne_self_eq_false]; done) | (simp only [decide_true, decide_false, eq_self, and_true, true_and, and_self, cond_true, cond_false, Nat.le_refl, Int.le_refl, Option.getD_some, Option.getD_none, Int.toNat_natCast, List.take_length, List.drop_zero, Nat.zero_add, List.nil_append, List.all_nil, List.append_nil, Bool.true_and, Bool.and_true, rowsA_sla, rowsA_sl, rowsA_nil, minus_zero, nat_le_cast, nat_nonneg, Option.isSome_some, Option.isSome_none, Bool.false_eq_true, false_and, and_false, if_true, if_false, implies_true, Int.toNat_zero, Bool.not_false, Bool.not_true, bne_self_eq_false]; rfl))
theorem s100C (L n : Nat) (l O : List (List DV)) (t : Int) (i : Nat) (k : Kont) : LB tab spR lR L (n+4) h100 c10l0 (S100 l t (.aref 50025 7 0 O.length) i none (some (.dat 27 7 O))) k =
   (bif decide ((↑i : Int) < (↑l.length : Int)) then
 lookK l[i]? fun (e1 : List DV) =>
 bif
 okRow
 [DV.int .i64 0, DV.int .i64 0, DV.int .i64 0, DV.int .i64 0, DV.int .i64 0, DV.int .i64 0, DV.int .i64 0]
 e1 then
 need
 (rdyS.D
 [DV.agg
 [DV.int .i64 (cellA e1 0).toI, DV.int .i64 (cellA e1 1).toI, DV.int .i64 (cellA e1 2).toI, DV.int .i64 (cellA e1 3).toI, DV.int .i64 (cellA e1 4).toI, DV.int .i64 (cellA e1 5).toI, DV.int .i64 (cellA e1 6).toI], DV.int .i64 t])
 (bif
 rdy t
 [DV.int .i64 (cellA e1 0).toI, DV.int .i64 (cellA e1 1).toI, DV.int .i64 (cellA e1 2).toI, DV.int .i64 (cellA e1 3).toI, DV.int .i64 (cellA e1 4).toI, DV.int .i64 (cellA e1 5).toI, DV.int .i64 (cellA e1 6).toI] then
 lookK l[i]? fun (e6 : List DV) =>
 bif
 okRow
 [DV.int .i64 0, DV.int .i64 0, DV.int .i64 0, DV.int .i64 0, DV.int .i64 0, DV.int .i64 0, DV.int .i64 0]
 e6 then
 bif
 decide
 ((O ++
 [[DV.int .i64 (cellA e6 0).toI, DV.int .i64 (cellA e6 1).toI, DV.int .i64 (cellA e6 2).toI, DV.int .i64 (cellA e6 3).toI, DV.int .i64 (cellA e6 4).toI, DV.int .i64 (cellA e6 5).toI, DV.int .i64 (cellA e6 6).toI]]).length *
 (56 : Nat) ≤
 room ∧
 (O ++
 [[DV.int .i64 (cellA e6 0).toI, DV.int .i64 (cellA e6 1).toI, DV.int .i64 (cellA e6 2).toI, DV.int .i64 (cellA e6 3).toI, DV.int .i64 (cellA e6 4).toI, DV.int .i64 (cellA e6 5).toI, DV.int .i64 (cellA e6 6).toI]]).length ≤
 room) then
 k Ex.nrm
 (St.of
 [(0, AV.d (DV.sla false 7 l)), (1, AV.d (DV.int .i64 t)),
 ((5 : Nat),
 AV.aref (alt (50025 : Nat) (25 : Nat)) (7 : Nat) (0 : Nat)
 (O ++
 [[DV.int .i64 (cellA e6 0).toI, DV.int .i64 (cellA e6 1).toI, DV.int .i64 (cellA e6 2).toI, DV.int .i64 (cellA e6 3).toI, DV.int .i64 (cellA e6 4).toI, DV.int .i64 (cellA e6 5).toI, DV.int .i64 (cellA e6 6).toI]]).length),
 ((6 : Nat), AV.d (DV.int .i64 (IntKind.i64.wrap ((↑i : Int) + (1 : Int)))))]
 [((25 : Nat),
 some
 (Ob.dat 27 7
 (O ++
 [[DV.int .i64 (cellA e6 0).toI, DV.int .i64 (cellA e6 1).toI, DV.int .i64 (cellA e6 2).toI, DV.int .i64 (cellA e6 3).toI, DV.int .i64 (cellA e6 4).toI, DV.int .i64 (cellA e6 5).toI, DV.int .i64 (cellA e6 6).toI]]))),
 ((50025 : Nat), none)])
 else none
 else none
 else
 k Ex.nrm
 (St.of
 [(0, AV.d (DV.sla false 7 l)), (1, AV.d (DV.int .i64 t)),
 ((5 : Nat), AV.aref 50025 7 0 O.length),
 ((6 : Nat), AV.d (DV.int .i64 (IntKind.i64.wrap ((↑i : Int) + (1 : Int)))))]
 [(25, none), (50025, some (Ob.dat 27 7 O))]))
 else none
 else
 k (Ex.ex (0 : Nat))
 (St.of [(5, AV.aref 50025 7 0 O.length)] [(25, none), (50025, some (Ob.dat 27 7 O))])) :=
  (show LB tab spR lR L (n+4) h100 c10l0 (S100 l t (.aref 50025 7 0 O.length) i none (some (.dat 27 7 O))) k =
 (cond (decide ((↑i : Int) < (↑l.length : Int)))
 (lookK (l[(↑i : Int).toNat]?)
 fun e1 =>
 (cond (okRow [DV.int .i64 0, DV.int .i64 0, DV.int .i64 0, DV.int .i64 0, DV.int .i64 0, DV.int .i64 0, DV.int .i64 0] e1)
 (need (FSpec.D (rdyS) [(.agg [(.int .i64 ((cellA e1 0).toI)), (.int .i64 ((cellA e1 1).toI)), (.int .i64 ((cellA e1 2).toI)), (.int .i64 ((cellA e1 3).toI)), (.int .i64 ((cellA e1 4).toI)), (.int .i64 ((cellA e1 5).toI)), (.int .i64 ((cellA e1 6).toI))]), (.int .i64 t)])
 (cond (rdy t [DV.int .i64 (cellA e1 0).toI, DV.int .i64 (cellA e1 1).toI, DV.int .i64 (cellA e1 2).toI, DV.int .i64 (cellA e1 3).toI, DV.int .i64 (cellA e1 4).toI, DV.int .i64 (cellA e1 5).toI, DV.int .i64 (cellA e1 6).toI])
 (lookK (l[(↑i : Int).toNat]?)
 fun e6 =>
 (cond (okRow [DV.int .i64 0, DV.int .i64 0, DV.int .i64 0, DV.int .i64 0, DV.int .i64 0, DV.int .i64 0, DV.int .i64 0] e6)
 (cond (decide ((27 : TypeId) = (27 : Nat) ∧ (7 : Nat) = (7 : Nat) ∧ (7 : Nat) = (7 : Nat) ∧ (0 : Nat) = (0 : Nat) ∧ O.length = O.length ∧ (O ++ [[DV.int .i64 (cellA e6 0).toI, DV.int .i64 (cellA e6 1).toI, DV.int .i64 (cellA e6 2).toI, DV.int .i64 (cellA e6 3).toI, DV.int .i64 (cellA e6 4).toI, DV.int .i64 (cellA e6 5).toI, DV.int .i64 (cellA e6 6).toI]]).length * (56 : Nat) ≤ room ∧ (O ++ [[DV.int .i64 (cellA e6 0).toI, DV.int .i64 (cellA e6 1).toI, DV.int .i64 (cellA e6 2).toI, DV.int .i64 (cellA e6 3).toI, DV.int .i64 (cellA e6 4).toI, DV.int .i64 (cellA e6 5).toI, DV.int .i64 (cellA e6 6).toI]]).length ≤ room))
 (k .nrm (St.of [(0, (.d (.sla false 7 l))), (1, (.d (.int .i64 t))), (5, (.aref (alt 50025 25) 7 0 ((O ++ [[DV.int .i64 (cellA e6 0).toI, DV.int .i64 (cellA e6 1).toI, DV.int .i64 (cellA e6 2).toI, DV.int .i64 (cellA e6 3).toI, DV.int .i64 (cellA e6 4).toI, DV.int .i64 (cellA e6 5).toI, DV.int .i64 (cellA e6 6).toI]]).length))), (6, (.d (.int .i64 (IntKind.i64.wrap ((↑i : Int) + (1 : Int))))))] [(25, (.some (.dat 27 7 (O ++ [[DV.int .i64 (cellA e6 0).toI, DV.int .i64 (cellA e6 1).toI, DV.int .i64 (cellA e6 2).toI, DV.int .i64 (cellA e6 3).toI, DV.int .i64 (cellA e6 4).toI, DV.int .i64 (cellA e6 5).toI, DV.int .i64 (cellA e6 6).toI]])))), (50025, .none)]))
 none)
 none))
 (k .nrm (St.of [(0, (.d (.sla false 7 l))), (1, (.d (.int .i64 t))), (5, (.aref 50025 7 0 (O.length))), (6, (.d (.int .i64 (IntKind.i64.wrap ((↑i : Int) + (1 : Int))))))] [(25, .none), (50025, (.some (.dat 27 7 O)))]))))
 none))
 (k (.ex 0) (St.of [(5, (.aref 50025 7 0 (O.length)))] [(25, .none), (50025, (.some (.dat 27 7 O)))]))) from by kernel_rfl).trans (by first | rfl | (simp only [decide_true, decide_false, eq_self, and_true, true_and, and_self, cond_true, cond_false, Nat.le_refl, Int.le_refl, Option.getD_some, Option.getD_none, Int.toNat_natCast, List.take_length, List.drop_zero, Nat.zero_add, List.nil_append, List.all_nil, List.append_nil, Bool.true_and, Bool.and_true, rowsA_sla, rowsA_sl, rowsA_nil, minus_zero, nat_le_cast, nat_nonneg, Option.isSome_some, Option.isSome_none, Bool.false_eq_true, false_and, and_false, if_true, if_false, implies_true, Int.toNat_zero, Bool.not_false, Bool.not_true, bne_self_eq_false]; done) | (simp only [decide_true, decide_false, eq_self, and_true, true_and, and_self, cond_true, cond_false, Nat.le_refl, Int.le_refl, Option.getD_some, Option.getD_none, Int.toNat_natCast, List.take_length, List.drop_zero, Nat.zero_add, List.nil_append, List.all_nil, List.append_nil, Bool.true_and, Bool.and_true, rowsA_sla, rowsA_sl, rowsA_nil, minus_zero, nat_le_cast, nat_nonneg, Option.isSome_some, Option.isSome_none, Bool.false_eq_true, false_and, and_false, if_true, if_false, implies_true, Int.toNat_zero, Bool.not_false, Bool.not_true, bne_self_eq_false]; rfl))
theorem t10 (n : Nat) (l : List (List DV)) (t : Int) : FK tab spR lR 20 (n+8) 10 [.sla false 7 l, .int .i64 t] =
   (bif (List.filter (clB (29 : FuncId) t) l).isEmpty then
 need
 (LoopOk (LB tab spR lR (20 : Nat) (n + (8 : Nat)) h100 c10l0)
 (St.of
 [(0, AV.d (DV.sla false 7 l)), (1, AV.d (DV.int .i64 t)), (5, AV.d DV.nilsl),
 ((6 : Nat), AV.d (DV.int .i64 0))]
 [(25, none), (50025, none)])
 (Ex.ex (0 : Nat), St.of [(5, AV.d DV.nilsl)] [(25, none), (50025, none)]))
 (some DV.nilsl)
 else
 bif parB ((List.filter (clB (29 : FuncId) t) l).length - (1 : Nat)) then
 need
 (LoopOk (LB tab spR lR (20 : Nat) (n + (8 : Nat)) h100 c10l0)
 (St.of
 [(0, AV.d (DV.sla false 7 l)), (1, AV.d (DV.int .i64 t)), (5, AV.d DV.nilsl),
 ((6 : Nat), AV.d (DV.int .i64 0))]
 [(25, none), (50025, none)])
 (Ex.ex (0 : Nat),
 St.of [(5, AV.aref 25 7 0 (List.filter (clB (29 : FuncId) t) l).length)]
 [(25, some (Ob.dat 27 7 (List.filter (clB (29 : FuncId) t) l))), (50025, none)]))
 (some (DV.sl (SK.own (27 : Nat)) (7 : Nat) (List.filter (clB (29 : FuncId) t) l)))
 else
 need
 (LoopOk (LB tab spR lR (20 : Nat) (n + (8 : Nat)) h100 c10l0)
 (St.of
 [(0, AV.d (DV.sla false 7 l)), (1, AV.d (DV.int .i64 t)), (5, AV.d DV.nilsl),
 ((6 : Nat), AV.d (DV.int .i64 0))]
 [(25, none), (50025, none)])
 (Ex.ex (0 : Nat),
 St.of [(5, AV.aref 50025 7 0 (List.filter (clB (29 : FuncId) t) l).length)]
 [(25, none), (50025, some (Ob.dat 27 7 (List.filter (clB (29 : FuncId) t) l)))]))
 (some (DV.sl (SK.own (27 : Nat)) (7 : Nat) (List.filter (clB (29 : FuncId) t) l)))) :=
  (show FK tab spR lR 20 (n+8) 10 [.sla false 7 l, .int .i64 t] =
 (cond ((List.filter (clB (29 : FuncId) t) l).isEmpty)
 (need (LoopOk (LB tab spR lR ((20 : Nat)) (n + (8 : Nat)) h100 c10l0) (St.of [(0, (.d (.sla false 7 l))), (1, (.d (.int .i64 t))), (5, (.d .nilsl)), (6, (.d (.int .i64 ((0 : Int)))))] [(25, .none), (50025, .none)]) ((.ex 0), (St.of [(5, (.d .nilsl))] [(25, .none), (50025, .none)])))
 (some .nilsl))
 (cond (parB ((List.filter (clB (29 : FuncId) t) l).length - (1 : Nat)))
 (need (LoopOk (LB tab spR lR ((20 : Nat)) (n + (8 : Nat)) h100 c10l0) (St.of [(0, (.d (.sla false 7 l))), (1, (.d (.int .i64 t))), (5, (.d .nilsl)), (6, (.d (.int .i64 ((0 : Int)))))] [(25, .none), (50025, .none)]) ((.ex 0), (St.of [(5, (.aref 25 7 0 ((List.filter (clB 29 t) l).length)))] [(25, (.some (.dat 27 7 (List.filter (clB (29 : FuncId) t) l)))), (50025, .none)])))
 (cond (decide ((List.filter (clB (29 : FuncId) t) l).length = (List.filter (clB (29 : FuncId) t) l).length))
 (some (.sl (SK.own (27 : Nat)) 7 (List.filter (clB (29 : FuncId) t) l)))
 (cond (decide ((0 : Nat) + (List.filter (clB (29 : FuncId) t) l).length ≤ (List.filter (clB (29 : FuncId) t) l).length))
 (some (.sl (SK.ro) 7 (List.take (List.filter (clB (29 : FuncId) t) l).length (List.filter (clB (29 : FuncId) t) l))))
 none)))
 (need (LoopOk (LB tab spR lR ((20 : Nat)) (n + (8 : Nat)) h100 c10l0) (St.of [(0, (.d (.sla false 7 l))), (1, (.d (.int .i64 t))), (5, (.d .nilsl)), (6, (.d (.int .i64 ((0 : Int)))))] [(25, .none), (50025, .none)]) ((.ex 0), (St.of [(5, (.aref 50025 7 0 ((List.filter (clB 29 t) l).length)))] [(25, .none), (50025, (.some (.dat 27 7 (List.filter (clB (29 : FuncId) t) l))))])))
 (cond (decide ((List.filter (clB (29 : FuncId) t) l).length = (List.filter (clB (29 : FuncId) t) l).length))
 (some (.sl (SK.own (27 : Nat)) 7 (List.filter (clB (29 : FuncId) t) l)))
 (cond (decide ((0 : Nat) + (List.filter (clB (29 : FuncId) t) l).length ≤ (List.filter (clB (29 : FuncId) t) l).length))
 (some (.sl (SK.ro) 7 (List.take (List.filter (clB (29 : FuncId) t) l).length (List.filter (clB (29 : FuncId) t) l))))
 none))))) from by kernel_rfl).trans (by first | rfl | (simp only [decide_true, decide_false, eq_self, and_true, true_and, and_self, cond_true, cond_false, Nat.le_refl, Int.le_refl, Option.getD_some, Option.getD_none, Int.toNat_natCast, List.take_length, List.drop_zero, Nat.zero_add, List.nil_append, List.all_nil, List.append_nil, Bool.true_and, Bool.and_true, rowsA_sla, rowsA_sl, rowsA_nil, minus_zero, nat_le_cast, nat_nonneg, Option.isSome_some, Option.isSome_none, Bool.false_eq_true, false_and, and_false, if_true, if_false, implies_true, Int.toNat_zero, Bool.not_false, Bool.not_true, bne_self_eq_false]; done) | (simp only [decide_true, decide_false, eq_self, and_true, true_and, and_self, cond_true, cond_false, Nat.le_refl, Int.le_refl, Option.getD_some, Option.getD_none, Int.toNat_natCast, List.take_length, List.drop_zero, Nat.zero_add, List.nil_append, List.all_nil, List.append_nil, Bool.true_and, Bool.and_true, rowsA_sla, rowsA_sl, rowsA_nil, minus_zero, nat_le_cast, nat_nonneg, Option.isSome_some, Option.isSome_none, Bool.false_eq_true, false_and, and_false, if_true, if_false, implies_true, Int.toNat_zero, Bool.not_false, Bool.not_true, bne_self_eq_false]; rfl))
theorem s200A (L n : Nat) (l M : List (List DV)) (i : Nat) (k : Kont) : LB tab spR lR L (n+4) h200 c20l0 (T200 l M (.d .nilsl) i none none) k =
   (bif decide ((↑i : Int) < (↑l.length : Int)) then
 bif decide (i ≤ l.length) then
 lookK l[i]? fun (e2 : List DV) =>
 bif
 okRow
 [DV.int .i64 0, DV.int .i64 0, DV.int .i64 0, DV.int .i64 0, DV.int .i64 0, DV.int .i64 0, DV.int .i64 0]
 e2 then
 need ((fltS (31 : FuncId)).D [DV.sla false 7 (List.take i l), DV.int .i64 (cellA e2 1).toI])
 (lookK l[i]? fun (e6 : List DV) =>
 bif
 okRow
 [DV.int .i64 0, DV.int .i64 0, DV.int .i64 0, DV.int .i64 0, DV.int .i64 0, DV.int .i64 0, DV.int .i64 0]
 e6 then
 bif decide ((cellA e6 1).toI ≥ (0 : Int)) then
 lookK l[i]? fun (e10 : List DV) =>
 bif
 okRow
 [DV.int .i64 0, DV.int .i64 0, DV.int .i64 0, DV.int .i64 0, DV.int .i64 0, DV.int .i64 0, DV.int .i64 0]
 e10 then
 bif decide ((cellA e10 1).toI < (↑M.length : Int)) then
 lookK l[i]? fun (e14 : List DV) =>
 bif
 okRow
 [DV.int .i64 0, DV.int .i64 0, DV.int .i64 0, DV.int .i64 0, DV.int .i64 0, DV.int .i64 0, DV.int .i64 0]
 e14 then
 bif decide ((0 : Int) ≤ (cellA e14 1).toI) then
 lookK M[(cellA e14 1).toI.toNat]? fun (e18 : List DV) =>
 bif okRow [DV.int .i64 0] e18 then
 bif
 decide
 ((↑(List.filter (clB (31 : FuncId) (cellA e2 1).toI) (List.take i l)).length : Int) <
 (cellA e18 0).toI) then
 lookK l[i]? fun (e22 : List DV) =>
 bif
 okRow
 [DV.int .i64 0, DV.int .i64 0, DV.int .i64 0, DV.int .i64 0, DV.int .i64 0, DV.int .i64 0, DV.int .i64 0]
 e22 then
 k Ex.nrm
 (St.of
 [(0, AV.d (DV.sla false 7 l)), (1, AV.d (DV.sla false 1 M)),
 ((5 : Nat), AV.aref 58 7 0 (1 : Nat)),
 ((6 : Nat), AV.d (DV.int .i64 (IntKind.i64.wrap ((↑i : Int) + (1 : Int)))))]
 [((58 : Nat),
 some
 (Ob.dat 27 7
 [[DV.int .i64 (cellA e22 0).toI, DV.int .i64 (cellA e22 1).toI, DV.int .i64 (cellA e22 2).toI, DV.int .i64 (cellA e22 3).toI, DV.int .i64 (cellA e22 4).toI, DV.int .i64 (cellA e22 5).toI, DV.int .i64 (cellA e22 6).toI]])),
 ((50058 : Nat), none)])
 else none
 else
 k Ex.nrm
 (St.of
 [(0, AV.d (DV.sla false 7 l)), (1, AV.d (DV.sla false 1 M)), (5, AV.d DV.nilsl),
 ((6 : Nat), AV.d (DV.int .i64 (IntKind.i64.wrap ((↑i : Int) + (1 : Int)))))]
 [(58, none), (50058, none)])
 else none
 else none
 else none
 else
 k Ex.nrm
 (St.of
 [(0, AV.d (DV.sla false 7 l)), (1, AV.d (DV.sla false 1 M)), (5, AV.d DV.nilsl),
 ((6 : Nat), AV.d (DV.int .i64 (IntKind.i64.wrap ((↑i : Int) + (1 : Int)))))]
 [(58, none), (50058, none)])
 else none
 else
 k Ex.nrm
 (St.of
 [(0, AV.d (DV.sla false 7 l)), (1, AV.d (DV.sla false 1 M)), (5, AV.d DV.nilsl),
 ((6 : Nat), AV.d (DV.int .i64 (IntKind.i64.wrap ((↑i : Int) + (1 : Int)))))]
 [(58, none), (50058, none)])
 else none)
 else none
 else none
 else k (Ex.ex (0 : Nat)) (St.of [(5, AV.d DV.nilsl)] [(58, none), (50058, none)])) :=
  (show LB tab spR lR L (n+4) h200 c20l0 (T200 l M (.d .nilsl) i none none) k =
 (cond (decide ((↑i : Int) < (↑l.length : Int)))
 (cond (decide ((some (↑i : Int)).getD (↑l.length : Int) ≤ (↑l.length : Int)))
 (lookK (l[(↑i : Int).toNat]?)
 fun e2 =>
 (cond (okRow [DV.int .i64 0, DV.int .i64 0, DV.int .i64 0, DV.int .i64 0, DV.int .i64 0, DV.int .i64 0, DV.int .i64 0] e2)
 (need (FSpec.D (fltS (31 : FuncId)) [(.sla false 7 (List.drop (none.getD (0 : Int)).toNat (List.take ((some (↑i : Int)).getD (↑l.length : Int)).toNat l))), (.int .i64 ((cellA e2 1).toI))])
 (lookK (l[(↑i : Int).toNat]?)
 fun e6 =>
 (cond (okRow [DV.int .i64 0, DV.int .i64 0, DV.int .i64 0, DV.int .i64 0, DV.int .i64 0, DV.int .i64 0, DV.int .i64 0] e6)
 (cond (decide ((cellA e6 1).toI ≥ (0 : Int)))
 (lookK (l[(↑i : Int).toNat]?)
 fun e10 =>
 (cond (okRow [DV.int .i64 0, DV.int .i64 0, DV.int .i64 0, DV.int .i64 0, DV.int .i64 0, DV.int .i64 0, DV.int .i64 0] e10)
 (cond (decide ((cellA e10 1).toI < (↑M.length : Int)))
 (lookK (l[(↑i : Int).toNat]?)
 fun e14 =>
 (cond (okRow [DV.int .i64 0, DV.int .i64 0, DV.int .i64 0, DV.int .i64 0, DV.int .i64 0, DV.int .i64 0, DV.int .i64 0] e14)
 (cond (decide ((0 : Int) ≤ (cellA e14 1).toI))
 (lookK (M[(cellA e14 1).toI.toNat]?)
 fun e18 =>
 (cond (okRow [DV.int .i64 0] e18)
 (cond (decide ((↑(List.filter (clB (31 : FuncId) (cellA e2 1).toI) (rowsA (DV.sla false 7 (List.drop (none.getD (0 : Int)).toNat (List.take ((some (↑i : Int)).getD (↑l.length : Int)).toNat l))))).length : Int) < (cellA e18 0).toI))
 (lookK (l[(↑i : Int).toNat]?)
 fun e22 =>
 (cond (okRow [DV.int .i64 0, DV.int .i64 0, DV.int .i64 0, DV.int .i64 0, DV.int .i64 0, DV.int .i64 0, DV.int .i64 0] e22)
 (k .nrm (St.of [(0, (.d (.sla false 7 l))), (1, (.d (.sla false 1 M))), (5, (.aref 58 7 0 1)), (6, (.d (.int .i64 (IntKind.i64.wrap ((↑i : Int) + (1 : Int))))))] [(58, (.some (.dat 27 7 [[(.int .i64 ((cellA e22 0).toI)), (.int .i64 ((cellA e22 1).toI)), (.int .i64 ((cellA e22 2).toI)), (.int .i64 ((cellA e22 3).toI)), (.int .i64 ((cellA e22 4).toI)), (.int .i64 ((cellA e22 5).toI)), (.int .i64 ((cellA e22 6).toI))]]))), (50058, .none)]))
 none))
 (k .nrm (St.of [(0, (.d (.sla false 7 l))), (1, (.d (.sla false 1 M))), (5, (.d .nilsl)), (6, (.d (.int .i64 (IntKind.i64.wrap ((↑i : Int) + (1 : Int))))))] [(58, .none), (50058, .none)])))
 none))
 none)
 none))
 (k .nrm (St.of [(0, (.d (.sla false 7 l))), (1, (.d (.sla false 1 M))), (5, (.d .nilsl)), (6, (.d (.int .i64 (IntKind.i64.wrap ((↑i : Int) + (1 : Int))))))] [(58, .none), (50058, .none)])))
 none))
 (k .nrm (St.of [(0, (.d (.sla false 7 l))), (1, (.d (.sla false 1 M))), (5, (.d .nilsl)), (6, (.d (.int .i64 (IntKind.i64.wrap ((↑i : Int) + (1 : Int))))))] [(58, .none), (50058, .none)])))
 none)))
 none))
 none)
 (k (.ex 0) (St.of [(5, (.d .nilsl))] [(58, .none), (50058, .none)]))) from by kernel_rfl).trans (by first | rfl | (simp only [decide_true, decide_false, eq_self, and_true, true_and, and_self, cond_true, cond_false, Nat.le_refl, Int.le_refl, Option.getD_some, Option.getD_none, Int.toNat_natCast, List.take_length, List.drop_zero, Nat.zero_add, List.nil_append, List.all_nil, List.append_nil, Bool.true_and, Bool.and_true, rowsA_sla, rowsA_sl, rowsA_nil, minus_zero, nat_le_cast, nat_nonneg, Option.isSome_some, Option.isSome_none, Bool.false_eq_true, false_and, and_false, if_true, if_false, implies_true, Int.toNat_zero, Bool.not_false, Bool.not_true, bne_self_eq_false]; done) | (simp only [decide_true, decide_false, eq_self, and_true, true_and, and_self, cond_true, cond_false, Nat.le_refl, Int.le_refl, Option.getD_some, Option.getD_none, Int.toNat_natCast, List.take_length, List.drop_zero, Nat.zero_add, List.nil_append, List.all_nil, List.append_nil, Bool.true_and, Bool.and_true, rowsA_sla, rowsA_sl, rowsA_nil, minus_zero, nat_le_cast, nat_nonneg, Option.isSome_some, Option.isSome_none, Bool.false_eq_true, false_and, and_false, if_true, if_false, implies_true, Int.toNat_zero, Bool.not_false, Bool.not_true, bne_self_eq_false]; rfl))
theorem s200B (L n : Nat) (l M O : List (List DV)) (i : Nat) (k : Kont) : LB tab spR lR L (n+4) h200 c20l0 (T200 l M (.aref 58 7 0 O.length) i (some (.dat 27 7 O)) none) k =
   (bif decide ((↑i : Int) < (↑l.length : Int)) then
 bif decide (i ≤ l.length) then
 lookK l[i]? fun (e2 : List DV) =>
 bif
 okRow
 [DV.int .i64 0, DV.int .i64 0, DV.int .i64 0, DV.int .i64 0, DV.int .i64 0, DV.int .i64 0, DV.int .i64 0]
 e2 then
 need ((fltS (31 : FuncId)).D [DV.sla false 7 (List.take i l), DV.int .i64 (cellA e2 1).toI])
 (lookK l[i]? fun (e6 : List DV) =>
 bif
 okRow
 [DV.int .i64 0, DV.int .i64 0, DV.int .i64 0, DV.int .i64 0, DV.int .i64 0, DV.int .i64 0, DV.int .i64 0]
 e6 then
 bif decide ((cellA e6 1).toI ≥ (0 : Int)) then
 lookK l[i]? fun (e10 : List DV) =>
 bif
 okRow
 [DV.int .i64 0, DV.int .i64 0, DV.int .i64 0, DV.int .i64 0, DV.int .i64 0, DV.int .i64 0, DV.int .i64 0]
 e10 then
 bif decide ((cellA e10 1).toI < (↑M.length : Int)) then
 lookK l[i]? fun (e14 : List DV) =>
 bif
 okRow
 [DV.int .i64 0, DV.int .i64 0, DV.int .i64 0, DV.int .i64 0, DV.int .i64 0, DV.int .i64 0, DV.int .i64 0]
 e14 then
 bif decide ((0 : Int) ≤ (cellA e14 1).toI) then
 lookK M[(cellA e14 1).toI.toNat]? fun (e18 : List DV) =>
 bif okRow [DV.int .i64 0] e18 then
 bif
 decide
 ((↑(List.filter (clB (31 : FuncId) (cellA e2 1).toI) (List.take i l)).length : Int) <
 (cellA e18 0).toI) then
 lookK l[i]? fun (e22 : List DV) =>
 bif
 okRow
 [DV.int .i64 0, DV.int .i64 0, DV.int .i64 0, DV.int .i64 0, DV.int .i64 0, DV.int .i64 0, DV.int .i64 0]
 e22 then
 bif
 decide
 ((O ++
 [[DV.int .i64 (cellA e22 0).toI, DV.int .i64 (cellA e22 1).toI, DV.int .i64 (cellA e22 2).toI, DV.int .i64 (cellA e22 3).toI, DV.int .i64 (cellA e22 4).toI, DV.int .i64 (cellA e22 5).toI, DV.int .i64 (cellA e22 6).toI]]).length *
 (56 : Nat) ≤
 room ∧
 (O ++
 [[DV.int .i64 (cellA e22 0).toI, DV.int .i64 (cellA e22 1).toI, DV.int .i64 (cellA e22 2).toI, DV.int .i64 (cellA e22 3).toI, DV.int .i64 (cellA e22 4).toI, DV.int .i64 (cellA e22 5).toI, DV.int .i64 (cellA e22 6).toI]]).length ≤
 room) then
 k Ex.nrm
 (St.of
 [(0, AV.d (DV.sla false 7 l)), (1, AV.d (DV.sla false 1 M)),
 ((5 : Nat),
 AV.aref (alt (58 : Nat) (58 : Nat)) (7 : Nat) (0 : Nat)
 (O ++
 [[DV.int .i64 (cellA e22 0).toI, DV.int .i64 (cellA e22 1).toI, DV.int .i64 (cellA e22 2).toI, DV.int .i64 (cellA e22 3).toI, DV.int .i64 (cellA e22 4).toI, DV.int .i64 (cellA e22 5).toI, DV.int .i64 (cellA e22 6).toI]]).length),
 ((6 : Nat), AV.d (DV.int .i64 (IntKind.i64.wrap ((↑i : Int) + (1 : Int)))))]
 [(58, none),
 ((50058 : Nat),
 some
 (Ob.dat 27 7
 (O ++
 [[DV.int .i64 (cellA e22 0).toI, DV.int .i64 (cellA e22 1).toI, DV.int .i64 (cellA e22 2).toI, DV.int .i64 (cellA e22 3).toI, DV.int .i64 (cellA e22 4).toI, DV.int .i64 (cellA e22 5).toI, DV.int .i64 (cellA e22 6).toI]])))])
 else none
 else none
 else
 k Ex.nrm
 (St.of
 [(0, AV.d (DV.sla false 7 l)), (1, AV.d (DV.sla false 1 M)),
 ((5 : Nat), AV.aref 58 7 0 O.length),
 ((6 : Nat), AV.d (DV.int .i64 (IntKind.i64.wrap ((↑i : Int) + (1 : Int)))))]
 [(58, some (Ob.dat 27 7 O)), (50058, none)])
 else none
 else none
 else none
 else
 k Ex.nrm
 (St.of
 [(0, AV.d (DV.sla false 7 l)), (1, AV.d (DV.sla false 1 M)),
 ((5 : Nat), AV.aref 58 7 0 O.length),
 ((6 : Nat), AV.d (DV.int .i64 (IntKind.i64.wrap ((↑i : Int) + (1 : Int)))))]
 [(58, some (Ob.dat 27 7 O)), (50058, none)])
 else none
 else
 k Ex.nrm
 (St.of
 [(0, AV.d (DV.sla false 7 l)), (1, AV.d (DV.sla false 1 M)),
 ((5 : Nat), AV.aref 58 7 0 O.length),
 ((6 : Nat), AV.d (DV.int .i64 (IntKind.i64.wrap ((↑i : Int) + (1 : Int)))))]
 [(58, some (Ob.dat 27 7 O)), (50058, none)])
 else none)
 else none
 else none
 else
 k (Ex.ex (0 : Nat))
 (St.of [(5, AV.aref 58 7 0 O.length)] [(58, some (Ob.dat 27 7 O)), (50058, none)])) :=
  (show LB tab spR lR L (n+4) h200 c20l0 (T200 l M (.aref 58 7 0 O.length) i (some (.dat 27 7 O)) none) k =
 (cond (decide ((↑i : Int) < (↑l.length : Int)))
 (cond (decide ((some (↑i : Int)).getD (↑l.length : Int) ≤ (↑l.length : Int)))
 (lookK (l[(↑i : Int).toNat]?)
 fun e2 =>
 (cond (okRow [DV.int .i64 0, DV.int .i64 0, DV.int .i64 0, DV.int .i64 0, DV.int .i64 0, DV.int .i64 0, DV.int .i64 0] e2)
 (need (FSpec.D (fltS (31 : FuncId)) [(.sla false 7 (List.drop (none.getD (0 : Int)).toNat (List.take ((some (↑i : Int)).getD (↑l.length : Int)).toNat l))), (.int .i64 ((cellA e2 1).toI))])
 (lookK (l[(↑i : Int).toNat]?)
 fun e6 =>
 (cond (okRow [DV.int .i64 0, DV.int .i64 0, DV.int .i64 0, DV.int .i64 0, DV.int .i64 0, DV.int .i64 0, DV.int .i64 0] e6)
 (cond (decide ((cellA e6 1).toI ≥ (0 : Int)))
 (lookK (l[(↑i : Int).toNat]?)
 fun e10 =>
 (cond (okRow [DV.int .i64 0, DV.int .i64 0, DV.int .i64 0, DV.int .i64 0, DV.int .i64 0, DV.int .i64 0, DV.int .i64 0] e10)
 (cond (decide ((cellA e10 1).toI < (↑M.length : Int)))
 (lookK (l[(↑i : Int).toNat]?)
 fun e14 =>
 (cond (okRow [DV.int .i64 0, DV.int .i64 0, DV.int .i64 0, DV.int .i64 0, DV.int .i64 0, DV.int .i64 0, DV.int .i64 0] e14)
 (cond (decide ((0 : Int) ≤ (cellA e14 1).toI))
 (lookK (M[(cellA e14 1).toI.toNat]?)
 fun e18 =>
 (cond (okRow [DV.int .i64 0] e18)
 (cond (decide ((↑(List.filter (clB (31 : FuncId) (cellA e2 1).toI) (rowsA (DV.sla false 7 (List.drop (none.getD (0 : Int)).toNat (List.take ((some (↑i : Int)).getD (↑l.length : Int)).toNat l))))).length : Int) < (cellA e18 0).toI))
 (lookK (l[(↑i : Int).toNat]?)
 fun e22 =>
 (cond (okRow [DV.int .i64 0, DV.int .i64 0, DV.int .i64 0, DV.int .i64 0, DV.int .i64 0, DV.int .i64 0, DV.int .i64 0] e22)
 (cond (decide ((27 : TypeId) = (27 : Nat) ∧ (7 : Nat) = (7 : Nat) ∧ (7 : Nat) = (7 : Nat) ∧ (0 : Nat) = (0 : Nat) ∧ O.length = O.length ∧ (O ++ [[DV.int .i64 (cellA e22 0).toI, DV.int .i64 (cellA e22 1).toI, DV.int .i64 (cellA e22 2).toI, DV.int .i64 (cellA e22 3).toI, DV.int .i64 (cellA e22 4).toI, DV.int .i64 (cellA e22 5).toI, DV.int .i64 (cellA e22 6).toI]]).length * (56 : Nat) ≤ room ∧ (O ++ [[DV.int .i64 (cellA e22 0).toI, DV.int .i64 (cellA e22 1).toI, DV.int .i64 (cellA e22 2).toI, DV.int .i64 (cellA e22 3).toI, DV.int .i64 (cellA e22 4).toI, DV.int .i64 (cellA e22 5).toI, DV.int .i64 (cellA e22 6).toI]]).length ≤ room))
 (k .nrm (St.of [(0, (.d (.sla false 7 l))), (1, (.d (.sla false 1 M))), (5, (.aref (alt 58 58) 7 0 ((O ++ [[DV.int .i64 (cellA e22 0).toI, DV.int .i64 (cellA e22 1).toI, DV.int .i64 (cellA e22 2).toI, DV.int .i64 (cellA e22 3).toI, DV.int .i64 (cellA e22 4).toI, DV.int .i64 (cellA e22 5).toI, DV.int .i64 (cellA e22 6).toI]]).length))), (6, (.d (.int .i64 (IntKind.i64.wrap ((↑i : Int) + (1 : Int))))))] [(58, .none), (50058, (.some (.dat 27 7 (O ++ [[DV.int .i64 (cellA e22 0).toI, DV.int .i64 (cellA e22 1).toI, DV.int .i64 (cellA e22 2).toI, DV.int .i64 (cellA e22 3).toI, DV.int .i64 (cellA e22 4).toI, DV.int .i64 (cellA e22 5).toI, DV.int .i64 (cellA e22 6).toI]]))))]))
 none)
 none))
 (k .nrm (St.of [(0, (.d (.sla false 7 l))), (1, (.d (.sla false 1 M))), (5, (.aref 58 7 0 (O.length))), (6, (.d (.int .i64 (IntKind.i64.wrap ((↑i : Int) + (1 : Int))))))] [(58, (.some (.dat 27 7 O))), (50058, .none)])))
 none))
 none)
 none))
 (k .nrm (St.of [(0, (.d (.sla false 7 l))), (1, (.d (.sla false 1 M))), (5, (.aref 58 7 0 (O.length))), (6, (.d (.int .i64 (IntKind.i64.wrap ((↑i : Int) + (1 : Int))))))] [(58, (.some (.dat 27 7 O))), (50058, .none)])))
 none))
 (k .nrm (St.of [(0, (.d (.sla false 7 l))), (1, (.d (.sla false 1 M))), (5, (.aref 58 7 0 (O.length))), (6, (.d (.int .i64 (IntKind.i64.wrap ((↑i : Int) + (1 : Int))))))] [(58, (.some (.dat 27 7 O))), (50058, .none)])))
 none)))
 none))
 none)
 (k (.ex 0) (St.of [(5, (.aref 58 7 0 (O.length)))] [(58, (.some (.dat 27 7 O))), (50058, .none)]))) from by kernel_rfl).trans (by first | rfl | (simp only [decide_true, decide_false, eq_self, and_true, true_and, and_self, cond_true, cond_false, Nat.le_refl, Int.le_refl, Option.getD_some, Option.getD_none, Int.toNat_natCast, List.take_length, List.drop_zero, Nat.zero_add, List.nil_append, List.all_nil, List.append_nil, Bool.true_and, Bool.and_true, rowsA_sla, rowsA_sl, rowsA_nil, minus_zero, nat_le_cast, nat_nonneg, Option.isSome_some, Option.isSome_none, Bool.false_eq_true, false_and, and_false, if_true, if_false, implies_true, Int.toNat_zero, Bool.not_false, Bool.not_true, bne_self_eq_false]; done) | (simp only [decide_true, decide_false, eq_self, and_true, true_and, and_self, cond_true, cond_false, Nat.le_refl, Int.le_refl, Option.getD_some, Option.getD_none, Int.toNat_natCast, List.take_length, List.drop_zero, Nat.zero_add, List.nil_append, List.all_nil, List.append_nil, Bool.true_and, Bool.and_true, rowsA_sla, rowsA_sl, rowsA_nil, minus_zero, nat_le_cast, nat_nonneg, Option.isSome_some, Option.isSome_none, Bool.false_eq_true, false_and, and_false, if_true, if_false, implies_true, Int.toNat_zero, Bool.not_false, Bool.not_true, bne_self_eq_false]; rfl))
theorem s200C (L n : Nat) (l M O : List (List DV)) (i : Nat) (k : Kont) : LB tab spR lR L (n+4) h200 c20l0 (T200 l M (.aref 50058 7 0 O.length) i none (some (.dat 27 7 O))) k =
   (bif decide ((↑i : Int) < (↑l.length : Int)) then
 bif decide (i ≤ l.length) then
 lookK l[i]? fun (e2 : List DV) =>
 bif
 okRow
 [DV.int .i64 0, DV.int .i64 0, DV.int .i64 0, DV.int .i64 0, DV.int .i64 0, DV.int .i64 0, DV.int .i64 0]
 e2 then
 need ((fltS (31 : FuncId)).D [DV.sla false 7 (List.take i l), DV.int .i64 (cellA e2 1).toI])
 (lookK l[i]? fun (e6 : List DV) =>
 bif
 okRow
 [DV.int .i64 0, DV.int .i64 0, DV.int .i64 0, DV.int .i64 0, DV.int .i64 0, DV.int .i64 0, DV.int .i64 0]
 e6 then
 bif decide ((cellA e6 1).toI ≥ (0 : Int)) then
 lookK l[i]? fun (e10 : List DV) =>
 bif
 okRow
 [DV.int .i64 0, DV.int .i64 0, DV.int .i64 0, DV.int .i64 0, DV.int .i64 0, DV.int .i64 0, DV.int .i64 0]
 e10 then
 bif decide ((cellA e10 1).toI < (↑M.length : Int)) then
 lookK l[i]? fun (e14 : List DV) =>
 bif
 okRow
 [DV.int .i64 0, DV.int .i64 0, DV.int .i64 0, DV.int .i64 0, DV.int .i64 0, DV.int .i64 0, DV.int .i64 0]
 e14 then
 bif decide ((0 : Int) ≤ (cellA e14 1).toI) then
 lookK M[(cellA e14 1).toI.toNat]? fun (e18 : List DV) =>
 bif okRow [DV.int .i64 0] e18 then
 bif
 decide
 ((↑(List.filter (clB (31 : FuncId) (cellA e2 1).toI) (List.take i l)).length : Int) <
 (cellA e18 0).toI) then
 lookK l[i]? fun (e22 : List DV) =>
 bif
 okRow
 [DV.int .i64 0, DV.int .i64 0, DV.int .i64 0, DV.int .i64 0, DV.int .i64 0, DV.int .i64 0, DV.int .i64 0]
 e22 then
 bif
 decide
 ((O ++
 [[DV.int .i64 (cellA e22 0).toI, DV.int .i64 (cellA e22 1).toI, DV.int .i64 (cellA e22 2).toI, DV.int .i64 (cellA e22 3).toI, DV.int .i64 (cellA e22 4).toI, DV.int .i64 (cellA e22 5).toI, DV.int .i64 (cellA e22 6).toI]]).length *
 (56 : Nat) ≤
 room ∧
 (O ++
 [[DV.int .i64 (cellA e22 0).toI, DV.int .i64 (cellA e22 1).toI, DV.int .i64 (cellA e22 2).toI, DV.int .i64 (cellA e22 3).toI, DV.int .i64 (cellA e22 4).toI, DV.int .i64 (cellA e22 5).toI, DV.int .i64 (cellA e22 6).toI]]).length ≤
 room) then
 k Ex.nrm
 (St.of
 [(0, AV.d (DV.sla false 7 l)), (1, AV.d (DV.sla false 1 M)),
 ((5 : Nat),
 AV.aref (alt (50058 : Nat) (58 : Nat)) (7 : Nat) (0 : Nat)
 (O ++
 [[DV.int .i64 (cellA e22 0).toI, DV.int .i64 (cellA e22 1).toI, DV.int .i64 (cellA e22 2).toI, DV.int .i64 (cellA e22 3).toI, DV.int .i64 (cellA e22 4).toI, DV.int .i64 (cellA e22 5).toI, DV.int .i64 (cellA e22 6).toI]]).length),
 ((6 : Nat), AV.d (DV.int .i64 (IntKind.i64.wrap ((↑i : Int) + (1 : Int)))))]
 [((58 : Nat),
 some
 (Ob.dat 27 7
 (O ++
 [[DV.int .i64 (cellA e22 0).toI, DV.int .i64 (cellA e22 1).toI, DV.int .i64 (cellA e22 2).toI, DV.int .i64 (cellA e22 3).toI, DV.int .i64 (cellA e22 4).toI, DV.int .i64 (cellA e22 5).toI, DV.int .i64 (cellA e22 6).toI]]))),
 ((50058 : Nat), none)])
 else none
 else none
 else
 k Ex.nrm
 (St.of
 [(0, AV.d (DV.sla false 7 l)), (1, AV.d (DV.sla false 1 M)),
 ((5 : Nat), AV.aref 50058 7 0 O.length),
 ((6 : Nat), AV.d (DV.int .i64 (IntKind.i64.wrap ((↑i : Int) + (1 : Int)))))]
 [(58, none), (50058, some (Ob.dat 27 7 O))])
 else none
 else none
 else none
 else
 k Ex.nrm
 (St.of
 [(0, AV.d (DV.sla false 7 l)), (1, AV.d (DV.sla false 1 M)),
 ((5 : Nat), AV.aref 50058 7 0 O.length),
 ((6 : Nat), AV.d (DV.int .i64 (IntKind.i64.wrap ((↑i : Int) + (1 : Int)))))]
 [(58, none), (50058, some (Ob.dat 27 7 O))])
 else none
 else
 k Ex.nrm
 (St.of
 [(0, AV.d (DV.sla false 7 l)), (1, AV.d (DV.sla false 1 M)),
 ((5 : Nat), AV.aref 50058 7 0 O.length),
 ((6 : Nat), AV.d (DV.int .i64 (IntKind.i64.wrap ((↑i : Int) + (1 : Int)))))]
 [(58, none), (50058, some (Ob.dat 27 7 O))])
 else none)
 else none
 else none
 else
 k (Ex.ex (0 : Nat))
 (St.of [(5, AV.aref 50058 7 0 O.length)] [(58, none), (50058, some (Ob.dat 27 7 O))])) :=
  (show LB tab spR lR L (n+4) h200 c20l0 (T200 l M (.aref 50058 7 0 O.length) i none (some (.dat 27 7 O))) k =
 (cond (decide ((↑i : Int) < (↑l.length : Int)))
 (cond (decide ((some (↑i : Int)).getD (↑l.length : Int) ≤ (↑l.length : Int)))
 (lookK (l[(↑i : Int).toNat]?)
 fun e2 =>
 (cond (okRow [DV.int .i64 0, DV.int .i64 0, DV.int .i64 0, DV.int .i64 0, DV.int .i64 0, DV.int .i64 0, DV.int .i64 0] e2)
 (need (FSpec.D (fltS (31 : FuncId)) [(.sla false 7 (List.drop (none.getD (0 : Int)).toNat (List.take ((some (↑i : Int)).getD (↑l.length : Int)).toNat l))), (.int .i64 ((cellA e2 1).toI))])
 (lookK (l[(↑i : Int).toNat]?)
 fun e6 =>
 (cond (okRow [DV.int .i64 0, DV.int .i64 0, DV.int .i64 0, DV.int .i64 0, DV.int .i64 0, DV.int .i64 0, DV.int .i64 0] e6)
 (cond (decide ((cellA e6 1).toI ≥ (0 : Int)))
 (lookK (l[(↑i : Int).toNat]?)
 fun e10 =>
 (cond (okRow [DV.int .i64 0, DV.int .i64 0, DV.int .i64 0, DV.int .i64 0, DV.int .i64 0, DV.int .i64 0, DV.int .i64 0] e10)
 (cond (decide ((cellA e10 1).toI < (↑M.length : Int)))
 (lookK (l[(↑i : Int).toNat]?)
 fun e14 =>
 (cond (okRow [DV.int .i64 0, DV.int .i64 0, DV.int .i64 0, DV.int .i64 0, DV.int .i64 0, DV.int .i64 0, DV.int .i64 0] e14)
 (cond (decide ((0 : Int) ≤ (cellA e14 1).toI))
 (lookK (M[(cellA e14 1).toI.toNat]?)
 fun e18 =>
 (cond (okRow [DV.int .i64 0] e18)
 (cond (decide ((↑(List.filter (clB (31 : FuncId) (cellA e2 1).toI) (rowsA (DV.sla false 7 (List.drop (none.getD (0 : Int)).toNat (List.take ((some (↑i : Int)).getD (↑l.length : Int)).toNat l))))).length : Int) < (cellA e18 0).toI))
 (lookK (l[(↑i : Int).toNat]?)
 fun e22 =>
 (cond (okRow [DV.int .i64 0, DV.int .i64 0, DV.int .i64 0, DV.int .i64 0, DV.int .i64 0, DV.int .i64 0, DV.int .i64 0] e22)
 (cond (decide ((27 : TypeId) = (27 : Nat) ∧ (7 : Nat) = (7 : Nat) ∧ (7 : Nat) = (7 : Nat) ∧ (0 : Nat) = (0 : Nat) ∧ O.length = O.length ∧ (O ++ [[DV.int .i64 (cellA e22 0).toI, DV.int .i64 (cellA e22 1).toI, DV.int .i64 (cellA e22 2).toI, DV.int .i64 (cellA e22 3).toI, DV.int .i64 (cellA e22 4).toI, DV.int .i64 (cellA e22 5).toI, DV.int .i64 (cellA e22 6).toI]]).length * (56 : Nat) ≤ room ∧ (O ++ [[DV.int .i64 (cellA e22 0).toI, DV.int .i64 (cellA e22 1).toI, DV.int .i64 (cellA e22 2).toI, DV.int .i64 (cellA e22 3).toI, DV.int .i64 (cellA e22 4).toI, DV.int .i64 (cellA e22 5).toI, DV.int .i64 (cellA e22 6).toI]]).length ≤ room))
 (k .nrm (St.of [(0, (.d (.sla false 7 l))), (1, (.d (.sla false 1 M))), (5, (.aref (alt 50058 58) 7 0 ((O ++ [[DV.int .i64 (cellA e22 0).toI, DV.int .i64 (cellA e22 1).toI, DV.int .i64 (cellA e22 2).toI, DV.int .i64 (cellA e22 3).toI, DV.int .i64 (cellA e22 4).toI, DV.int .i64 (cellA e22 5).toI, DV.int .i64 (cellA e22 6).toI]]).length))), (6, (.d (.int .i64 (IntKind.i64.wrap ((↑i : Int) + (1 : Int))))))] [(58, (.some (.dat 27 7 (O ++ [[DV.int .i64 (cellA e22 0).toI, DV.int .i64 (cellA e22 1).toI, DV.int .i64 (cellA e22 2).toI, DV.int .i64 (cellA e22 3).toI, DV.int .i64 (cellA e22 4).toI, DV.int .i64 (cellA e22 5).toI, DV.int .i64 (cellA e22 6).toI]])))), (50058, .none)]))
 none)
 none))
 (k .nrm (St.of [(0, (.d (.sla false 7 l))), (1, (.d (.sla false 1 M))), (5, (.aref 50058 7 0 (O.length))), (6, (.d (.int .i64 (IntKind.i64.wrap ((↑i : Int) + (1 : Int))))))] [(58, .none), (50058, (.some (.dat 27 7 O)))])))
 none))
 none)
 none))
 (k .nrm (St.of [(0, (.d (.sla false 7 l))), (1, (.d (.sla false 1 M))), (5, (.aref 50058 7 0 (O.length))), (6, (.d (.int .i64 (IntKind.i64.wrap ((↑i : Int) + (1 : Int))))))] [(58, .none), (50058, (.some (.dat 27 7 O)))])))
 none))
 (k .nrm (St.of [(0, (.d (.sla false 7 l))), (1, (.d (.sla false 1 M))), (5, (.aref 50058 7 0 (O.length))), (6, (.d (.int .i64 (IntKind.i64.wrap ((↑i : Int) + (1 : Int))))))] [(58, .none), (50058, (.some (.dat 27 7 O)))])))
 none)))
 none))
 none)
 (k (.ex 0) (St.of [(5, (.aref 50058 7 0 (O.length)))] [(58, .none), (50058, (.some (.dat 27 7 O)))]))) from by kernel_rfl).trans (by first | rfl | (simp only [decide_true, decide_false, eq_self, and_true, true_and, and_self, cond_true, cond_false, Nat.le_refl, Int.le_refl, Option.getD_some, Option.getD_none, Int.toNat_natCast, List.take_length, List.drop_zero, Nat.zero_add, List.nil_append, List.all_nil, List.append_nil, Bool.true_and, Bool.and_true, rowsA_sla, rowsA_sl, rowsA_nil, minus_zero, nat_le_cast, nat_nonneg, Option.isSome_some, Option.isSome_none, Bool.false_eq_true, false_and, and_false, if_true, if_false, implies_true, Int.toNat_zero, Bool.not_false, Bool.not_true, bne_self_eq_false]; done) | (simp only [decide_true, decide_false, eq_self, and_true, true_and, and_self, cond_true, cond_false, Nat.le_refl, Int.le_refl, Option.getD_some, Option.getD_none, Int.toNat_natCast, List.take_length, List.drop_zero, Nat.zero_add, List.nil_append, List.all_nil, List.append_nil, Bool.true_and, Bool.and_true, rowsA_sla, rowsA_sl, rowsA_nil, minus_zero, nat_le_cast, nat_nonneg, Option.isSome_some, Option.isSome_none, Bool.false_eq_true, false_and, and_false, if_true, if_false, implies_true, Int.toNat_zero, Bool.not_false, Bool.not_true, bne_self_eq_false]; rfl))
theorem t20 (n : Nat) (l M : List (List DV)) : FK tab spR lR 20 (n+8) 20 [.sla false 7 l, .sla false 1 M] =
   (bif (outN l.length (hdB M l) (rowP l)).isEmpty then
 need
 (LoopOk (LB tab spR lR (20 : Nat) (n + (8 : Nat)) h200 c20l0)
 (St.of
 [(0, AV.d (DV.sla false 7 l)), (1, AV.d (DV.sla false 1 M)), (5, AV.d DV.nilsl),
 ((6 : Nat), AV.d (DV.int .i64 0))]
 [(58, none), (50058, none)])
 (Ex.ex (0 : Nat), St.of [(5, AV.d DV.nilsl)] [(58, none), (50058, none)]))
 (some DV.nilsl)
 else
 bif parB ((outN l.length (hdB M l) (rowP l)).length - (1 : Nat)) then
 need
 (LoopOk (LB tab spR lR (20 : Nat) (n + (8 : Nat)) h200 c20l0)
 (St.of
 [(0, AV.d (DV.sla false 7 l)), (1, AV.d (DV.sla false 1 M)), (5, AV.d DV.nilsl),
 ((6 : Nat), AV.d (DV.int .i64 0))]
 [(58, none), (50058, none)])
 (Ex.ex (0 : Nat),
 St.of [(5, AV.aref 58 7 0 (outN l.length (hdB M l) (rowP l)).length)]
 [(58, some (Ob.dat 27 7 (outN l.length (hdB M l) (rowP l)))), (50058, none)]))
 (some (DV.sl (SK.own (27 : Nat)) (7 : Nat) (outN l.length (hdB M l) (rowP l))))
 else
 need
 (LoopOk (LB tab spR lR (20 : Nat) (n + (8 : Nat)) h200 c20l0)
 (St.of
 [(0, AV.d (DV.sla false 7 l)), (1, AV.d (DV.sla false 1 M)), (5, AV.d DV.nilsl),
 ((6 : Nat), AV.d (DV.int .i64 0))]
 [(58, none), (50058, none)])
 (Ex.ex (0 : Nat),
 St.of [(5, AV.aref 50058 7 0 (outN l.length (hdB M l) (rowP l)).length)]
 [(58, none), (50058, some (Ob.dat 27 7 (outN l.length (hdB M l) (rowP l))))]))
 (some (DV.sl (SK.own (27 : Nat)) (7 : Nat) (outN l.length (hdB M l) (rowP l))))) :=
  (show FK tab spR lR 20 (n+8) 20 [.sla false 7 l, .sla false 1 M] =
 (cond ((outN l.length (hdB M l) (rowP l)).isEmpty)
 (need (LoopOk (LB tab spR lR ((20 : Nat)) (n + (8 : Nat)) h200 c20l0) (St.of [(0, (.d (.sla false 7 l))), (1, (.d (.sla false 1 M))), (5, (.d .nilsl)), (6, (.d (.int .i64 ((0 : Int)))))] [(58, .none), (50058, .none)]) ((.ex 0), (St.of [(5, (.d .nilsl))] [(58, .none), (50058, .none)])))
 (some .nilsl))
 (cond (parB ((outN l.length (hdB M l) (rowP l)).length - (1 : Nat)))
 (need (LoopOk (LB tab spR lR ((20 : Nat)) (n + (8 : Nat)) h200 c20l0) (St.of [(0, (.d (.sla false 7 l))), (1, (.d (.sla false 1 M))), (5, (.d .nilsl)), (6, (.d (.int .i64 ((0 : Int)))))] [(58, .none), (50058, .none)]) ((.ex 0), (St.of [(5, (.aref 58 7 0 ((outN l.length (hdB M l) (rowP l)).length)))] [(58, (.some (.dat 27 7 (outN l.length (hdB M l) (rowP l))))), (50058, .none)])))
 (cond (decide ((outN l.length (hdB M l) (rowP l)).length = (outN l.length (hdB M l) (rowP l)).length))
 (some (.sl (SK.own (27 : Nat)) 7 (outN l.length (hdB M l) (rowP l))))
 (cond (decide ((0 : Nat) + (outN l.length (hdB M l) (rowP l)).length ≤ (outN l.length (hdB M l) (rowP l)).length))
 (some (.sl (SK.ro) 7 (List.take (outN l.length (hdB M l) (rowP l)).length (outN l.length (hdB M l) (rowP l)))))
 none)))
 (need (LoopOk (LB tab spR lR ((20 : Nat)) (n + (8 : Nat)) h200 c20l0) (St.of [(0, (.d (.sla false 7 l))), (1, (.d (.sla false 1 M))), (5, (.d .nilsl)), (6, (.d (.int .i64 ((0 : Int)))))] [(58, .none), (50058, .none)]) ((.ex 0), (St.of [(5, (.aref 50058 7 0 ((outN l.length (hdB M l) (rowP l)).length)))] [(58, .none), (50058, (.some (.dat 27 7 (outN l.length (hdB M l) (rowP l)))))])))
 (cond (decide ((outN l.length (hdB M l) (rowP l)).length = (outN l.length (hdB M l) (rowP l)).length))
 (some (.sl (SK.own (27 : Nat)) 7 (outN l.length (hdB M l) (rowP l))))
 (cond (decide ((0 : Nat) + (outN l.length (hdB M l) (rowP l)).length ≤ (outN l.length (hdB M l) (rowP l)).length))
 (some (.sl (SK.ro) 7 (List.take (outN l.length (hdB M l) (rowP l)).length (outN l.length (hdB M l) (rowP l)))))
 none))))) from by kernel_rfl).trans (by first | rfl | (simp only [decide_true, decide_false, eq_self, and_true, true_and, and_self, cond_true, cond_false, Nat.le_refl, Int.le_refl, Option.getD_some, Option.getD_none, Int.toNat_natCast, List.take_length, List.drop_zero, Nat.zero_add, List.nil_append, List.all_nil, List.append_nil, Bool.true_and, Bool.and_true, rowsA_sla, rowsA_sl, rowsA_nil, minus_zero, nat_le_cast, nat_nonneg, Option.isSome_some, Option.isSome_none, Bool.false_eq_true, false_and, and_false, if_true, if_false, implies_true, Int.toNat_zero, Bool.not_false, Bool.not_true, bne_self_eq_false]; done) | (simp only [decide_true, decide_false, eq_self, and_true, true_and, and_self, cond_true, cond_false, Nat.le_refl, Int.le_refl, Option.getD_some, Option.getD_none, Int.toNat_natCast, List.take_length, List.drop_zero, Nat.zero_add, List.nil_append, List.all_nil, List.append_nil, Bool.true_and, Bool.and_true, rowsA_sla, rowsA_sl, rowsA_nil, minus_zero, nat_le_cast, nat_nonneg, Option.isSome_some, Option.isSome_none, Bool.false_eq_true, false_and, and_false, if_true, if_false, implies_true, Int.toNat_zero, Bool.not_false, Bool.not_true, bne_self_eq_false]; rfl))
end Go.Proofs.Ytjejjokdbbedlaa
