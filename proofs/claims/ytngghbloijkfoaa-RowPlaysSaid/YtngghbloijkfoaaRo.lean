/- What is known of the document's own functions on rows of payments, by their runs. No condition. -/
import Derived.Test.YtngghbloijkfoaaRn
namespace Go.Proofs.Ytngghbloijkfoaa
open Go Go.Proofs Go.RowKit Vm
set_option linter.unusedVariables false
set_option linter.unusedSimpArgs false
def l450 : LSpec := fun st => match st.env 0, st.env 3 with
  | .d x, .d (.rptr p _) => .one (.ex 0) (St.of [(5, .d (.int .i64 (bhP (rowsA x) p)))] [])
  | _, _ => .no
def l310 : LSpec := fun st => match st.env 6, st.env 7, st.seg 7 with
  | .d x, v, some (.dat a b [p]) => .one (.ex 0) (St.of [(6, .d x), (7, v), (9, .d (.int .i64 (frP (rowsA x) p)))] [(13, none), (7, some (.dat a b [p]))])
  | _, _, _ => .no
def lo (k : Nat) : Option LSpec := if k = 450 then some l450 else if k = 310 then some l310 else none
def S450 (R : List (List DV)) (p : List DV) (i : Int) : St := St.of [(0, .d (.sla false 7 R)), (3, .d (.rptr p 0)), (5, .d (.int .i64 i))] [(3, none)]
def S310 (R : List (List DV)) (p : List DV) (i : Int) : St := St.of [(6, .d (.sla false 7 R)), (7, .ptr 7 7 0 0), (9, .d (.int .i64 i))] [(13, none), (7, some (.dat 38 7 [p]))]
def inB (es : List (List DV)) (i : Nat) (p : List DV) : List (List DV) := es.take i ++ (p :: es.drop i)
def inbS : FSpec where
  D ds := ∃ x i p, ds = [x, .int .i64 ((i : Nat) : Int), .agg p] ∧ I7 1000 x ∧ okRow z7 p = true ∧ i ≤ (rowsA x).length
  val ds := match ds with | [x, .int _ i, .agg p] => some (.sla false 7 (inB (rowsA x) i.toNat p)) | _ => none
def behS : FSpec where
  D ds := ∃ x p, ds = [x, .agg p] ∧ I7 1000 x ∧ okRow z7 p = true
  val ds := match ds with | [x, .agg p] => some (.int .i64 (bhP (rowsA x) p)) | _ => none
noncomputable def spP7 : FuncId → Option FSpec := spAdd 26 fndS (spAdd 25 drpS (spAdd 44 inbS (spAdd 45 behS noSp)))
noncomputable def spR7 : FuncId → Option FSpec := spAdd 25 drpS (spAdd 44 inbS noSp)
theorem s450 (L n : Nat) (R : List (List DV)) (a0 a1 a2 a3 a4 a5 a6 : Int) (i : Nat) (k : Kont) : LB tab noSp lo (L+4) (n+4) h450 c45l0 (S450 R [.int .i64 a0, .int .i64 a1, .int .i64 a2, .int .i64 a3, .int .i64 a4, .int .i64 a5, .int .i64 a6] i) k =
   (bif decide ((↑i : Int) < (↑R.length : Int)) then
 lookK R[i]? fun (e1 : List DV) =>
 bif
 okRow
 [DV.int .i64 0, DV.int .i64 0, DV.int .i64 0, DV.int .i64 0, DV.int .i64 0, DV.int .i64 0, DV.int .i64 0]
 e1 then
 bif
 bif decide ((cellA e1 1).toI < a1) then true
 else bif (cellA e1 1).toI == a1 then decide ((cellA e1 4).toI ≤ a4) else false then
 k Ex.nrm
 (St.of
 [(0, AV.d (DV.sla false 7 R)),
 ((3 : Nat),
 AV.d
 (DV.rptr
 [DV.int .i64 a0, DV.int .i64 a1, DV.int .i64 a2, DV.int .i64 a3, DV.int .i64 a4, DV.int .i64 a5, DV.int .i64 a6]
 (0 : Nat))),
 ((5 : Nat), AV.d (DV.int .i64 (IntKind.i64.wrap ((↑i : Int) + (1 : Int)))))]
 [(3, none)])
 else k (Ex.ex (0 : Nat)) (St.of [(5, AV.d (DV.int .i64 (↑i : Int)))] [])
 else none
 else k (Ex.ex (0 : Nat)) (St.of [(5, AV.d (DV.int .i64 (↑i : Int)))] [])) :=
  (show LB tab noSp lo (L+4) (n+4) h450 c45l0 (S450 R [.int .i64 a0, .int .i64 a1, .int .i64 a2, .int .i64 a3, .int .i64 a4, .int .i64 a5, .int .i64 a6] i) k =
 (cond (decide ((↑i : Int) < (↑R.length : Int)))
 (lookK (R[(↑i : Int).toNat]?)
 fun e1 =>
 (cond (okRow [DV.int .i64 0, DV.int .i64 0, DV.int .i64 0, DV.int .i64 0, DV.int .i64 0, DV.int .i64 0, DV.int .i64 0] e1)
 (cond (bif decide ((cellA e1 1).toI < a1) then true else bif (cellA e1 1).toI == a1 then decide ((cellA e1 4).toI ≤ a4) else false)
 (k .nrm (St.of [(0, (.d (.sla false 7 R))), (3, (.d (.rptr [(.int .i64 a0), (.int .i64 a1), (.int .i64 a2), (.int .i64 a3), (.int .i64 a4), (.int .i64 a5), (.int .i64 a6)] 0))), (5, (.d (.int .i64 (IntKind.i64.wrap ((↑i : Int) + (1 : Int))))))] [(3, .none)]))
 (k (.ex 0) (St.of [(5, (.d (.int .i64 ((↑i : Int)))))] [])))
 none))
 (k (.ex 0) (St.of [(5, (.d (.int .i64 ((↑i : Int)))))] []))) from by kernel_rfl).trans (by first | rfl | (simp only [decide_true, decide_false, eq_self, and_true, true_and, and_self, cond_true, cond_false, Nat.le_refl, Int.le_refl, Option.getD_some, Option.getD_none, Int.toNat_natCast, List.take_length, List.drop_zero, Nat.zero_add, List.nil_append, List.all_nil, List.append_nil, Bool.true_and, Bool.and_true, rowsA_sla, rowsA_sl, rowsA_nil, minus_zero, nat_le_cast, nat_nonneg, Option.isSome_some, Option.isSome_none, Bool.false_eq_true, false_and, and_false, if_true, if_false, implies_true, Int.toNat_zero, Bool.not_false, Bool.not_true, bne_self_eq_false]; done) | (simp only [decide_true, decide_false, eq_self, and_true, true_and, and_self, cond_true, cond_false, Nat.le_refl, Int.le_refl, Option.getD_some, Option.getD_none, Int.toNat_natCast, List.take_length, List.drop_zero, Nat.zero_add, List.nil_append, List.all_nil, List.append_nil, Bool.true_and, Bool.and_true, rowsA_sla, rowsA_sl, rowsA_nil, minus_zero, nat_le_cast, nat_nonneg, Option.isSome_some, Option.isSome_none, Bool.false_eq_true, false_and, and_false, if_true, if_false, implies_true, Int.toNat_zero, Bool.not_false, Bool.not_true, bne_self_eq_false]; rfl))
theorem t45 (L n : Nat) (es : List (List DV)) (a0 a1 a2 a3 a4 a5 a6 : Int) : FK tab noSp lo L (n+8) 45 [.sla false 7 es, .agg [.int .i64 a0, .int .i64 a1, .int .i64 a2, .int .i64 a3, .int .i64 a4, .int .i64 a5, .int .i64 a6]] =
   (need
 (LoopOk (LB tab noSp lo L (n + (8 : Nat)) h450 c45l0)
 (St.of
 [(0, AV.d (DV.sla false 7 es)),
 ((3 : Nat),
 AV.d
 (DV.rptr
 [DV.int .i64 a0, DV.int .i64 a1, DV.int .i64 a2, DV.int .i64 a3, DV.int .i64 a4, DV.int .i64 a5, DV.int .i64 a6]
 (0 : Nat))),
 ((5 : Nat), AV.d (DV.int .i64 0))]
 [(3, none)])
 (Ex.ex (0 : Nat),
 St.of
 [((5 : Nat),
 AV.d
 (DV.int .i64
 (↑(bhP es
 [DV.int .i64 a0, DV.int .i64 a1, DV.int .i64 a2, DV.int .i64 a3, DV.int .i64 a4, DV.int .i64 a5, DV.int .i64 a6]) :
 Int)))]
 []))
 (some
 (DV.int .i64
 (↑(bhP es
 [DV.int .i64 a0, DV.int .i64 a1, DV.int .i64 a2, DV.int .i64 a3, DV.int .i64 a4, DV.int .i64 a5, DV.int .i64 a6]) :
 Int)))) :=
  (show FK tab noSp lo L (n+8) 45 [.sla false 7 es, .agg [.int .i64 a0, .int .i64 a1, .int .i64 a2, .int .i64 a3, .int .i64 a4, .int .i64 a5, .int .i64 a6]] =
 (need (LoopOk (LB tab noSp lo L (n + (8 : Nat)) h450 c45l0) (St.of [(0, (.d (.sla false 7 es))), (3, (.d (.rptr [(.int .i64 a0), (.int .i64 a1), (.int .i64 a2), (.int .i64 a3), (.int .i64 a4), (.int .i64 a5), (.int .i64 a6)] 0))), (5, (.d (.int .i64 ((0 : Int)))))] [(3, .none)]) ((.ex 0), (St.of [(5, (.d (.int .i64 ((↑(bhP (rowsA (DV.sla false 7 es)) [DV.int .i64 a0, DV.int .i64 a1, DV.int .i64 a2, DV.int .i64 a3, DV.int .i64 a4, DV.int .i64 a5, DV.int .i64 a6]) : Int)))))] [])))
 (some (.int .i64 ((↑(bhP (rowsA (DV.sla false 7 es)) [DV.int .i64 a0, DV.int .i64 a1, DV.int .i64 a2, DV.int .i64 a3, DV.int .i64 a4, DV.int .i64 a5, DV.int .i64 a6]) : Int))))) from by kernel_rfl).trans (by first | rfl | (simp only [decide_true, decide_false, eq_self, and_true, true_and, and_self, cond_true, cond_false, Nat.le_refl, Int.le_refl, Option.getD_some, Option.getD_none, Int.toNat_natCast, List.take_length, List.drop_zero, Nat.zero_add, List.nil_append, List.all_nil, List.append_nil, Bool.true_and, Bool.and_true, rowsA_sla, rowsA_sl, rowsA_nil, minus_zero, nat_le_cast, nat_nonneg, Option.isSome_some, Option.isSome_none, Bool.false_eq_true, false_and, and_false, if_true, if_false, implies_true, Int.toNat_zero, Bool.not_false, Bool.not_true, bne_self_eq_false]; done) | (simp only [decide_true, decide_false, eq_self, and_true, true_and, and_self, cond_true, cond_false, Nat.le_refl, Int.le_refl, Option.getD_some, Option.getD_none, Int.toNat_natCast, List.take_length, List.drop_zero, Nat.zero_add, List.nil_append, List.all_nil, List.append_nil, Bool.true_and, Bool.and_true, rowsA_sla, rowsA_sl, rowsA_nil, minus_zero, nat_le_cast, nat_nonneg, Option.isSome_some, Option.isSome_none, Bool.false_eq_true, false_and, and_false, if_true, if_false, implies_true, Int.toNat_zero, Bool.not_false, Bool.not_true, bne_self_eq_false]; rfl))
theorem t44 (L n : Nat) (es : List (List DV)) (i a0 a1 a2 a3 a4 a5 a6 : Int) : FK tab noSp lo L (n+8) 44 [.sla false 7 es, .int .i64 i, .agg [.int .i64 a0, .int .i64 a1, .int .i64 a2, .int .i64 a3, .int .i64 a4, .int .i64 a5, .int .i64 a6]] =
   (bif decide ((0 : Int) ≤ i) then
 bif decide (i ≤ (↑es.length : Int)) then
 bif decide ((List.take i.toNat es).length = (0 : Nat)) then
 bif decide ((0 : Int) ≤ i) then
 bif decide (i ≤ (↑es.length : Int)) then
 bif decide ((List.drop i.toNat es).length = (0 : Nat)) then
 some
 (DV.sl (SK.own (38 : Nat)) (7 : Nat)
 [[DV.int .i64 a0, DV.int .i64 a1, DV.int .i64 a2, DV.int .i64 a3, DV.int .i64 a4, DV.int .i64 a5, DV.int .i64 a6]])
 else
 bif (List.drop i.toNat es).all fun (e : List DV) => e.length == (7 : Nat) && e.all DV.one then
 bif decide (((List.drop i.toNat es).length + (1 : Nat)) * (56 : Nat) ≤ room ∧ (List.drop i.toNat es).length + (1 : Nat) ≤ room) then
 some
 (DV.sl (SK.own (38 : Nat)) (7 : Nat)
 ([DV.int .i64 a0, DV.int .i64 a1, DV.int .i64 a2, DV.int .i64 a3, DV.int .i64 a4, DV.int .i64 a5, DV.int .i64 a6] ::
 List.drop i.toNat es))
 else none
 else none
 else none
 else none
 else
 bif (List.take i.toNat es).all fun (e : List DV) => e.length == (7 : Nat) && e.all DV.one then
 bif decide ((List.take i.toNat es).length * (56 : Nat) ≤ room ∧ (List.take i.toNat es).length ≤ room) then
 bif
 decide
 ((List.take i.toNat es ++
 [[DV.int .i64 a0, DV.int .i64 a1, DV.int .i64 a2, DV.int .i64 a3, DV.int .i64 a4, DV.int .i64 a5, DV.int .i64 a6]]).length *
 (56 : Nat) ≤
 room ∧
 (List.take i.toNat es ++
 [[DV.int .i64 a0, DV.int .i64 a1, DV.int .i64 a2, DV.int .i64 a3, DV.int .i64 a4, DV.int .i64 a5, DV.int .i64 a6]]).length ≤
 room) then
 bif decide ((0 : Int) ≤ i) then
 bif decide (i ≤ (↑es.length : Int)) then
 bif decide ((List.drop i.toNat es).length = (0 : Nat)) then
 some
 (DV.sl (SK.own (38 : Nat)) (7 : Nat)
 (List.take i.toNat es ++
 [[DV.int .i64 a0, DV.int .i64 a1, DV.int .i64 a2, DV.int .i64 a3, DV.int .i64 a4, DV.int .i64 a5, DV.int .i64 a6]]))
 else
 bif (List.drop i.toNat es).all fun (e : List DV) => e.length == (7 : Nat) && e.all DV.one then
 bif
 decide
 ((List.take i.toNat es ++
 [[DV.int .i64 a0, DV.int .i64 a1, DV.int .i64 a2, DV.int .i64 a3, DV.int .i64 a4, DV.int .i64 a5, DV.int .i64 a6]] ++
 List.drop i.toNat es).length *
 (56 : Nat) ≤
 room ∧
 (List.take i.toNat es ++
 [[DV.int .i64 a0, DV.int .i64 a1, DV.int .i64 a2, DV.int .i64 a3, DV.int .i64 a4, DV.int .i64 a5, DV.int .i64 a6]] ++
 List.drop i.toNat es).length ≤
 room) then
 some
 (DV.sl (SK.own (38 : Nat)) (7 : Nat)
 (List.take i.toNat es ++
 [[DV.int .i64 a0, DV.int .i64 a1, DV.int .i64 a2, DV.int .i64 a3, DV.int .i64 a4, DV.int .i64 a5, DV.int .i64 a6]] ++
 List.drop i.toNat es))
 else none
 else none
 else none
 else none
 else none
 else none
 else none
 else none
 else none) :=
  (show FK tab noSp lo L (n+8) 44 [.sla false 7 es, .int .i64 i, .agg [.int .i64 a0, .int .i64 a1, .int .i64 a2, .int .i64 a3, .int .i64 a4, .int .i64 a5, .int .i64 a6]] =
 (cond (decide (none.getD (0 : Int) ≤ (some i).getD (↑es.length : Int)))
 (cond (decide ((some i).getD (↑es.length : Int) ≤ (↑es.length : Int)))
 (cond (decide ((List.drop (none.getD (0 : Int)).toNat (List.take ((some i).getD (↑es.length : Int)).toNat es)).length = (0 : Nat)))
 (cond (decide ((0 : Int) ≤ (some i).getD (0 : Int)))
 (cond (decide ((some i).getD (0 : Int) ≤ none.getD (↑es.length : Int)))
 (cond (decide (none.getD (↑es.length : Int) ≤ (↑es.length : Int)))
 (cond (decide ((List.drop ((some i).getD (0 : Int)).toNat (List.take (none.getD (↑es.length : Int)).toNat es)).length = (0 : Nat)))
 (some (.sl (SK.own (38 : Nat)) 7 [[(.int .i64 a0), (.int .i64 a1), (.int .i64 a2), (.int .i64 a3), (.int .i64 a4), (.int .i64 a5), (.int .i64 a6)]]))
 (cond ((List.drop ((some i).getD (0 : Int)).toNat (List.take (none.getD (↑es.length : Int)).toNat es)).all fun (e : List DV) => e.length == (7 : Nat) && e.all DV.one)
 (cond (decide ((38 : Nat) = (38 : Nat) ∧ (7 : Nat) = (7 : Nat) ∧ (7 : Nat) = (7 : Nat) ∧ (0 : Nat) = (0 : Nat) ∧ (1 : Nat) = (1 : Nat) ∧ ((List.drop ((some i).getD (0 : Int)).toNat (List.take (none.getD (↑es.length : Int)).toNat es)).length + (1 : Nat)) * (56 : Nat) ≤ room ∧ (List.drop ((some i).getD (0 : Int)).toNat (List.take (none.getD (↑es.length : Int)).toNat es)).length + (1 : Nat) ≤ room))
 (cond (decide ((List.drop ((some i).getD (0 : Int)).toNat (List.take (none.getD (↑es.length : Int)).toNat es)).length + (1 : Nat) = (List.drop ((some i).getD (0 : Int)).toNat (List.take (none.getD (↑es.length : Int)).toNat es)).length + (1 : Nat)))
 (some (.sl (SK.own (38 : Nat)) 7 ([DV.int .i64 a0, DV.int .i64 a1, DV.int .i64 a2, DV.int .i64 a3, DV.int .i64 a4, DV.int .i64 a5, DV.int .i64 a6] :: List.drop ((some i).getD (0 : Int)).toNat (List.take (none.getD (↑es.length : Int)).toNat es))))
 (cond (decide ((0 : Nat) + ((List.drop ((some i).getD (0 : Int)).toNat (List.take (none.getD (↑es.length : Int)).toNat es)).length + (1 : Nat)) ≤ (List.drop ((some i).getD (0 : Int)).toNat (List.take (none.getD (↑es.length : Int)).toNat es)).length + (1 : Nat)))
 (some (.sl (SK.ro) 7 ([DV.int .i64 a0, DV.int .i64 a1, DV.int .i64 a2, DV.int .i64 a3, DV.int .i64 a4, DV.int .i64 a5, DV.int .i64 a6] :: List.take (List.drop ((some i).getD (0 : Int)).toNat (List.take (none.getD (↑es.length : Int)).toNat es)).length (List.drop ((some i).getD (0 : Int)).toNat (List.take (none.getD (↑es.length : Int)).toNat es)))))
 none))
 none)
 none))
 none)
 none)
 none)
 (cond ((List.drop (none.getD (0 : Int)).toNat (List.take ((some i).getD (↑es.length : Int)).toNat es)).all fun (e : List DV) => e.length == (7 : Nat) && e.all DV.one)
 (cond (decide ((7 : Nat) = (7 : Nat) ∧ (List.drop (none.getD (0 : Int)).toNat (List.take ((some i).getD (↑es.length : Int)).toNat es)).length * (56 : Nat) ≤ room ∧ (List.drop (none.getD (0 : Int)).toNat (List.take ((some i).getD (↑es.length : Int)).toNat es)).length ≤ room ∧ ([].all fun (e : List DV) => e.length == (7 : Nat) && e.all DV.one) = true))
 (cond (decide ((38 : Nat) = (38 : Nat) ∧ (7 : Nat) = (7 : Nat) ∧ (7 : Nat) = (7 : Nat) ∧ (0 : Nat) = (0 : Nat) ∧ (List.drop (none.getD (0 : Int)).toNat (List.take ((some i).getD (↑es.length : Int)).toNat es)).length = (List.drop (none.getD (0 : Int)).toNat (List.take ((some i).getD (↑es.length : Int)).toNat es)).length ∧ (List.drop (none.getD (0 : Int)).toNat (List.take ((some i).getD (↑es.length : Int)).toNat es) ++ [[DV.int .i64 a0, DV.int .i64 a1, DV.int .i64 a2, DV.int .i64 a3, DV.int .i64 a4, DV.int .i64 a5, DV.int .i64 a6]]).length * (56 : Nat) ≤ room ∧ (List.drop (none.getD (0 : Int)).toNat (List.take ((some i).getD (↑es.length : Int)).toNat es) ++ [[DV.int .i64 a0, DV.int .i64 a1, DV.int .i64 a2, DV.int .i64 a3, DV.int .i64 a4, DV.int .i64 a5, DV.int .i64 a6]]).length ≤ room))
 (cond (decide ((0 : Int) ≤ (some i).getD (0 : Int)))
 (cond (decide ((some i).getD (0 : Int) ≤ none.getD (↑es.length : Int)))
 (cond (decide (none.getD (↑es.length : Int) ≤ (↑es.length : Int)))
 (cond (decide ((List.drop ((some i).getD (0 : Int)).toNat (List.take (none.getD (↑es.length : Int)).toNat es)).length = (0 : Nat)))
 (cond (decide ((List.drop (none.getD (0 : Int)).toNat (List.take ((some i).getD (↑es.length : Int)).toNat es) ++ [[DV.int .i64 a0, DV.int .i64 a1, DV.int .i64 a2, DV.int .i64 a3, DV.int .i64 a4, DV.int .i64 a5, DV.int .i64 a6]]).length = (List.drop (none.getD (0 : Int)).toNat (List.take ((some i).getD (↑es.length : Int)).toNat es) ++ [[DV.int .i64 a0, DV.int .i64 a1, DV.int .i64 a2, DV.int .i64 a3, DV.int .i64 a4, DV.int .i64 a5, DV.int .i64 a6]]).length))
 (some (.sl (SK.own (38 : Nat)) 7 (List.drop (none.getD (0 : Int)).toNat (List.take ((some i).getD (↑es.length : Int)).toNat es) ++ [[DV.int .i64 a0, DV.int .i64 a1, DV.int .i64 a2, DV.int .i64 a3, DV.int .i64 a4, DV.int .i64 a5, DV.int .i64 a6]])))
 (cond (decide ((0 : Nat) + (List.drop (none.getD (0 : Int)).toNat (List.take ((some i).getD (↑es.length : Int)).toNat es) ++ [[DV.int .i64 a0, DV.int .i64 a1, DV.int .i64 a2, DV.int .i64 a3, DV.int .i64 a4, DV.int .i64 a5, DV.int .i64 a6]]).length ≤ (List.drop (none.getD (0 : Int)).toNat (List.take ((some i).getD (↑es.length : Int)).toNat es) ++ [[DV.int .i64 a0, DV.int .i64 a1, DV.int .i64 a2, DV.int .i64 a3, DV.int .i64 a4, DV.int .i64 a5, DV.int .i64 a6]]).length))
 (some (.sl (SK.ro) 7 (List.take (List.drop (none.getD (0 : Int)).toNat (List.take ((some i).getD (↑es.length : Int)).toNat es) ++ [[DV.int .i64 a0, DV.int .i64 a1, DV.int .i64 a2, DV.int .i64 a3, DV.int .i64 a4, DV.int .i64 a5, DV.int .i64 a6]]).length (List.drop (none.getD (0 : Int)).toNat (List.take ((some i).getD (↑es.length : Int)).toNat es) ++ [[DV.int .i64 a0, DV.int .i64 a1, DV.int .i64 a2, DV.int .i64 a3, DV.int .i64 a4, DV.int .i64 a5, DV.int .i64 a6]]))))
 none))
 (cond ((List.drop ((some i).getD (0 : Int)).toNat (List.take (none.getD (↑es.length : Int)).toNat es)).all fun (e : List DV) => e.length == (7 : Nat) && e.all DV.one)
 (cond (decide ((38 : Nat) = (38 : Nat) ∧ (7 : Nat) = (7 : Nat) ∧ (7 : Nat) = (7 : Nat) ∧ (0 : Nat) = (0 : Nat) ∧ (List.drop (none.getD (0 : Int)).toNat (List.take ((some i).getD (↑es.length : Int)).toNat es) ++ [[DV.int .i64 a0, DV.int .i64 a1, DV.int .i64 a2, DV.int .i64 a3, DV.int .i64 a4, DV.int .i64 a5, DV.int .i64 a6]]).length = (List.drop (none.getD (0 : Int)).toNat (List.take ((some i).getD (↑es.length : Int)).toNat es) ++ [[DV.int .i64 a0, DV.int .i64 a1, DV.int .i64 a2, DV.int .i64 a3, DV.int .i64 a4, DV.int .i64 a5, DV.int .i64 a6]]).length ∧ (List.drop (none.getD (0 : Int)).toNat (List.take ((some i).getD (↑es.length : Int)).toNat es) ++ [[DV.int .i64 a0, DV.int .i64 a1, DV.int .i64 a2, DV.int .i64 a3, DV.int .i64 a4, DV.int .i64 a5, DV.int .i64 a6]] ++ List.drop ((some i).getD (0 : Int)).toNat (List.take (none.getD (↑es.length : Int)).toNat es)).length * (56 : Nat) ≤ room ∧ (List.drop (none.getD (0 : Int)).toNat (List.take ((some i).getD (↑es.length : Int)).toNat es) ++ [[DV.int .i64 a0, DV.int .i64 a1, DV.int .i64 a2, DV.int .i64 a3, DV.int .i64 a4, DV.int .i64 a5, DV.int .i64 a6]] ++ List.drop ((some i).getD (0 : Int)).toNat (List.take (none.getD (↑es.length : Int)).toNat es)).length ≤ room))
 (cond (decide ((List.drop (none.getD (0 : Int)).toNat (List.take ((some i).getD (↑es.length : Int)).toNat es) ++ [[DV.int .i64 a0, DV.int .i64 a1, DV.int .i64 a2, DV.int .i64 a3, DV.int .i64 a4, DV.int .i64 a5, DV.int .i64 a6]] ++ List.drop ((some i).getD (0 : Int)).toNat (List.take (none.getD (↑es.length : Int)).toNat es)).length = (List.drop (none.getD (0 : Int)).toNat (List.take ((some i).getD (↑es.length : Int)).toNat es) ++ [[DV.int .i64 a0, DV.int .i64 a1, DV.int .i64 a2, DV.int .i64 a3, DV.int .i64 a4, DV.int .i64 a5, DV.int .i64 a6]] ++ List.drop ((some i).getD (0 : Int)).toNat (List.take (none.getD (↑es.length : Int)).toNat es)).length))
 (some (.sl (SK.own (38 : Nat)) 7 (List.drop (none.getD (0 : Int)).toNat (List.take ((some i).getD (↑es.length : Int)).toNat es) ++ [[DV.int .i64 a0, DV.int .i64 a1, DV.int .i64 a2, DV.int .i64 a3, DV.int .i64 a4, DV.int .i64 a5, DV.int .i64 a6]] ++ List.drop ((some i).getD (0 : Int)).toNat (List.take (none.getD (↑es.length : Int)).toNat es))))
 (cond (decide ((0 : Nat) + (List.drop (none.getD (0 : Int)).toNat (List.take ((some i).getD (↑es.length : Int)).toNat es) ++ [[DV.int .i64 a0, DV.int .i64 a1, DV.int .i64 a2, DV.int .i64 a3, DV.int .i64 a4, DV.int .i64 a5, DV.int .i64 a6]] ++ List.drop ((some i).getD (0 : Int)).toNat (List.take (none.getD (↑es.length : Int)).toNat es)).length ≤ (List.drop (none.getD (0 : Int)).toNat (List.take ((some i).getD (↑es.length : Int)).toNat es) ++ [[DV.int .i64 a0, DV.int .i64 a1, DV.int .i64 a2, DV.int .i64 a3, DV.int .i64 a4, DV.int .i64 a5, DV.int .i64 a6]] ++ List.drop ((some i).getD (0 : Int)).toNat (List.take (none.getD (↑es.length : Int)).toNat es)).length))
 (some (.sl (SK.ro) 7 (List.take (List.drop (none.getD (0 : Int)).toNat (List.take ((some i).getD (↑es.length : Int)).toNat es) ++ [[DV.int .i64 a0, DV.int .i64 a1, DV.int .i64 a2, DV.int .i64 a3, DV.int .i64 a4, DV.int .i64 a5, DV.int .i64 a6]] ++ List.drop ((some i).getD (0 : Int)).toNat (List.take (none.getD (↑es.length : Int)).toNat es)).length (List.drop (none.getD (0 : Int)).toNat (List.take ((some i).getD (↑es.length : Int)).toNat es) ++ [[DV.int .i64 a0, DV.int .i64 a1, DV.int .i64 a2, DV.int .i64 a3, DV.int .i64 a4, DV.int .i64 a5, DV.int .i64 a6]] ++ List.drop ((some i).getD (0 : Int)).toNat (List.take (none.getD (↑es.length : Int)).toNat es)))))
 none))
 none)
 none))
 none)
 none)
 none)
 none)
 none)
 none))
 none)
 none) from by kernel_rfl).trans (by first | rfl | (simp only [decide_true, decide_false, eq_self, and_true, true_and, and_self, cond_true, cond_false, Nat.le_refl, Int.le_refl, Option.getD_some, Option.getD_none, Int.toNat_natCast, List.take_length, List.drop_zero, Nat.zero_add, List.nil_append, List.all_nil, List.append_nil, Bool.true_and, Bool.and_true, rowsA_sla, rowsA_sl, rowsA_nil, minus_zero, nat_le_cast, nat_nonneg, Option.isSome_some, Option.isSome_none, Bool.false_eq_true, false_and, and_false, if_true, if_false, implies_true, Int.toNat_zero, Bool.not_false, Bool.not_true, bne_self_eq_false]; done) | (simp only [decide_true, decide_false, eq_self, and_true, true_and, and_self, cond_true, cond_false, Nat.le_refl, Int.le_refl, Option.getD_some, Option.getD_none, Int.toNat_natCast, List.take_length, List.drop_zero, Nat.zero_add, List.nil_append, List.all_nil, List.append_nil, Bool.true_and, Bool.and_true, rowsA_sla, rowsA_sl, rowsA_nil, minus_zero, nat_le_cast, nat_nonneg, Option.isSome_some, Option.isSome_none, Bool.false_eq_true, false_and, and_false, if_true, if_false, implies_true, Int.toNat_zero, Bool.not_false, Bool.not_true, bne_self_eq_false]; rfl))
theorem s310 (L n : Nat) (R : List (List DV)) (a0 a1 a2 a3 a4 a5 a6 : Int) (i : Nat) (k : Kont) : LB tab spR7 lo (L+4) (n+4) h310 c31l0 (S310 R [.int .i64 a0, .int .i64 a1, .int .i64 a2, .int .i64 a3, .int .i64 a4, .int .i64 a5, .int .i64 a6] i) k =
   (bif decide ((↑i : Int) < (↑R.length : Int)) then
 lookK R[i]? fun (e1 : List DV) =>
 bif
 okRow
 [DV.int .i64 0, DV.int .i64 0, DV.int .i64 0, DV.int .i64 0, DV.int .i64 0, DV.int .i64 0, DV.int .i64 0]
 e1 then
 bif
 !bif decide (a1 < (cellA e1 1).toI) then true
 else bif a1 == (cellA e1 1).toI then decide (a4 ≤ (cellA e1 4).toI) else false then
 k Ex.nrm
 (St.of
 [(6, AV.d (DV.sla false 7 R)), (7, AV.ptr 7 7 0 0),
 ((9 : Nat), AV.d (DV.int .i64 (IntKind.i64.wrap ((↑i : Int) + (1 : Int)))))]
 [(13, none),
 ((7 : Nat),
 some
 (Ob.dat 38 7
 [[DV.int .i64 a0, DV.int .i64 a1, DV.int .i64 a2, DV.int .i64 a3, DV.int .i64 a4, DV.int .i64 a5, DV.int .i64 a6]]))])
 else
 k (Ex.ex (0 : Nat))
 (St.of
 [(6, AV.d (DV.sla false 7 R)), (7, AV.ptr 7 7 0 0),
 ((9 : Nat), AV.d (DV.int .i64 (↑i : Int)))]
 [(13, none),
 ((7 : Nat),
 some
 (Ob.dat 38 7
 [[DV.int .i64 a0, DV.int .i64 a1, DV.int .i64 a2, DV.int .i64 a3, DV.int .i64 a4, DV.int .i64 a5, DV.int .i64 a6]]))])
 else none
 else
 k (Ex.ex (0 : Nat))
 (St.of
 [(6, AV.d (DV.sla false 7 R)), (7, AV.ptr 7 7 0 0),
 ((9 : Nat), AV.d (DV.int .i64 (↑i : Int)))]
 [(13, none),
 ((7 : Nat),
 some
 (Ob.dat 38 7
 [[DV.int .i64 a0, DV.int .i64 a1, DV.int .i64 a2, DV.int .i64 a3, DV.int .i64 a4, DV.int .i64 a5, DV.int .i64 a6]]))])) :=
  (show LB tab spR7 lo (L+4) (n+4) h310 c31l0 (S310 R [.int .i64 a0, .int .i64 a1, .int .i64 a2, .int .i64 a3, .int .i64 a4, .int .i64 a5, .int .i64 a6] i) k =
 (cond (decide ((↑i : Int) < (↑R.length : Int)))
 (lookK (R[(↑i : Int).toNat]?)
 fun e1 =>
 (cond (okRow [DV.int .i64 0, DV.int .i64 0, DV.int .i64 0, DV.int .i64 0, DV.int .i64 0, DV.int .i64 0, DV.int .i64 0] e1)
 (cond (!bif decide (a1 < (cellA e1 1).toI) then true else bif a1 == (cellA e1 1).toI then decide (a4 ≤ (cellA e1 4).toI) else false)
 (k .nrm (St.of [(6, (.d (.sla false 7 R))), (7, (.ptr 7 7 0 0)), (9, (.d (.int .i64 (IntKind.i64.wrap ((↑i : Int) + (1 : Int))))))] [(13, .none), (7, (.some (.dat 38 7 [[(.int .i64 a0), (.int .i64 a1), (.int .i64 a2), (.int .i64 a3), (.int .i64 a4), (.int .i64 a5), (.int .i64 a6)]])))]))
 (k (.ex 0) (St.of [(6, (.d (.sla false 7 R))), (7, (.ptr 7 7 0 0)), (9, (.d (.int .i64 ((↑i : Int)))))] [(13, .none), (7, (.some (.dat 38 7 [[(.int .i64 a0), (.int .i64 a1), (.int .i64 a2), (.int .i64 a3), (.int .i64 a4), (.int .i64 a5), (.int .i64 a6)]])))])))
 none))
 (k (.ex 0) (St.of [(6, (.d (.sla false 7 R))), (7, (.ptr 7 7 0 0)), (9, (.d (.int .i64 ((↑i : Int)))))] [(13, .none), (7, (.some (.dat 38 7 [[(.int .i64 a0), (.int .i64 a1), (.int .i64 a2), (.int .i64 a3), (.int .i64 a4), (.int .i64 a5), (.int .i64 a6)]])))]))) from by kernel_rfl).trans (by first | rfl | (simp only [decide_true, decide_false, eq_self, and_true, true_and, and_self, cond_true, cond_false, Nat.le_refl, Int.le_refl, Option.getD_some, Option.getD_none, Int.toNat_natCast, List.take_length, List.drop_zero, Nat.zero_add, List.nil_append, List.all_nil, List.append_nil, Bool.true_and, Bool.and_true, rowsA_sla, rowsA_sl, rowsA_nil, minus_zero, nat_le_cast, nat_nonneg, Option.isSome_some, Option.isSome_none, Bool.false_eq_true, false_and, and_false, if_true, if_false, implies_true, Int.toNat_zero, Bool.not_false, Bool.not_true, bne_self_eq_false]; done) | (simp only [decide_true, decide_false, eq_self, and_true, true_and, and_self, cond_true, cond_false, Nat.le_refl, Int.le_refl, Option.getD_some, Option.getD_none, Int.toNat_natCast, List.take_length, List.drop_zero, Nat.zero_add, List.nil_append, List.all_nil, List.append_nil, Bool.true_and, Bool.and_true, rowsA_sla, rowsA_sl, rowsA_nil, minus_zero, nat_le_cast, nat_nonneg, Option.isSome_some, Option.isSome_none, Bool.false_eq_true, false_and, and_false, if_true, if_false, implies_true, Int.toNat_zero, Bool.not_false, Bool.not_true, bne_self_eq_false]; rfl))
theorem t31 (L n : Nat) (es : List (List DV)) (id : Int) : FK tab spR7 lo L (n+8) 31 [.sla false 7 es, .int .i64 id] =
   (need (drpS.D [DV.sla false 7 es, DV.int .i64 id])
 (bif dropE es id != (0 : Int) then some (DV.tuple [DV.sla false 7 es, DV.int .i64 (dropE es id)])
 else
 need
 (LoopOk (LB tab spR7 lo L (n + (8 : Nat)) h310 c31l0)
 (St.of
 [(6, AV.d (DV.sla false 7 (dropL es id))), (7, AV.ptr 7 7 0 0),
 ((9 : Nat), AV.d (DV.int .i64 0))]
 [(13, none),
 ((7 : Nat),
 some
 (Ob.dat 38 7
 [[DV.int .i64 (cellA (dropP es id) 0).toI, DV.int .i64 (cellA (dropP es id) 1).toI, DV.int .i64 (cellA (dropP es id) 2).toI, DV.int .i64 (cellA (dropP es id) 3).toI, DV.int .i64 (cellA (dropP es id) 4).toI, DV.int .i64 (cellA (dropP es id) 5).toI, DV.int .i64 (cellA (dropP es id) 6).toI]]))])
 (Ex.ex (0 : Nat),
 St.of
 [(6, AV.d (DV.sla false 7 (dropL es id))), (7, AV.ptr 7 7 0 0),
 ((9 : Nat),
 AV.d
 (DV.int .i64
 (↑(frP (dropL es id)
 [DV.int .i64 (cellA (dropP es id) 0).toI, DV.int .i64 (cellA (dropP es id) 1).toI, DV.int .i64 (cellA (dropP es id) 2).toI, DV.int .i64 (cellA (dropP es id) 3).toI, DV.int .i64 (cellA (dropP es id) 4).toI, DV.int .i64 (cellA (dropP es id) 5).toI, DV.int .i64 (cellA (dropP es id) 6).toI]) :
 Int)))]
 [(13, none),
 ((7 : Nat),
 some
 (Ob.dat 38 7
 [[DV.int .i64 (cellA (dropP es id) 0).toI, DV.int .i64 (cellA (dropP es id) 1).toI, DV.int .i64 (cellA (dropP es id) 2).toI, DV.int .i64 (cellA (dropP es id) 3).toI, DV.int .i64 (cellA (dropP es id) 4).toI, DV.int .i64 (cellA (dropP es id) 5).toI, DV.int .i64 (cellA (dropP es id) 6).toI]]))]))
 (need
 (inbS.D
 [DV.sla false 7 (dropL es id), DV.int .i64
 (↑(frP (dropL es id)
 [DV.int .i64 (cellA (dropP es id) 0).toI, DV.int .i64 (cellA (dropP es id) 1).toI, DV.int .i64 (cellA (dropP es id) 2).toI, DV.int .i64 (cellA (dropP es id) 3).toI, DV.int .i64 (cellA (dropP es id) 4).toI, DV.int .i64 (cellA (dropP es id) 5).toI, DV.int .i64 (cellA (dropP es id) 6).toI]) :
 Int),
 DV.agg
 [DV.int .i64 (cellA (dropP es id) 0).toI, DV.int .i64 (cellA (dropP es id) 1).toI, DV.int .i64 (cellA (dropP es id) 2).toI, DV.int .i64 (cellA (dropP es id) 3).toI, DV.int .i64 (cellA (dropP es id) 4).toI, DV.int .i64 (cellA (dropP es id) 5).toI, DV.int .i64 (cellA (dropP es id) 6).toI]])
 (some
 (DV.tuple
 [DV.sla false 7
 (inB (dropL es id)
 (frP (dropL es id)
 [DV.int .i64 (cellA (dropP es id) 0).toI, DV.int .i64 (cellA (dropP es id) 1).toI, DV.int .i64 (cellA (dropP es id) 2).toI, DV.int .i64 (cellA (dropP es id) 3).toI, DV.int .i64 (cellA (dropP es id) 4).toI, DV.int .i64 (cellA (dropP es id) 5).toI, DV.int .i64 (cellA (dropP es id) 6).toI])
 [DV.int .i64 (cellA (dropP es id) 0).toI, DV.int .i64 (cellA (dropP es id) 1).toI, DV.int .i64 (cellA (dropP es id) 2).toI, DV.int .i64 (cellA (dropP es id) 3).toI, DV.int .i64 (cellA (dropP es id) 4).toI, DV.int .i64 (cellA (dropP es id) 5).toI, DV.int .i64 (cellA (dropP es id) 6).toI]), DV.int .i64 0]))))) :=
  (show FK tab spR7 lo L (n+8) 31 [.sla false 7 es, .int .i64 id] =
 (need (FSpec.D (drpS) [(.sla false 7 es), (.int .i64 id)])
 (cond (dropE (rowsA (DV.sla false 7 es)) id != (0 : Int))
 (some (.tuple [(.sla false 7 es), (.int .i64 (dropE (rowsA (DV.sla false 7 es)) id))]))
 (need (LoopOk (LB tab spR7 lo L (n + (8 : Nat)) h310 c31l0) (St.of [(6, (.d (.sla false 7 (dropL (rowsA (DV.sla false 7 es)) id)))), (7, (.ptr 7 7 0 0)), (9, (.d (.int .i64 ((0 : Int)))))] [(13, .none), (7, (.some (.dat 38 7 [[(.int .i64 ((cellA (dropP (rowsA (DV.sla false 7 es)) id) (0 : Nat)).toI)), (.int .i64 ((cellA (dropP (rowsA (DV.sla false 7 es)) id) (1 : Nat)).toI)), (.int .i64 ((cellA (dropP (rowsA (DV.sla false 7 es)) id) (2 : Nat)).toI)), (.int .i64 ((cellA (dropP (rowsA (DV.sla false 7 es)) id) (3 : Nat)).toI)), (.int .i64 ((cellA (dropP (rowsA (DV.sla false 7 es)) id) (4 : Nat)).toI)), (.int .i64 ((cellA (dropP (rowsA (DV.sla false 7 es)) id) (5 : Nat)).toI)), (.int .i64 ((cellA (dropP (rowsA (DV.sla false 7 es)) id) (6 : Nat)).toI))]])))]) ((.ex 0), (St.of [(6, (.d (.sla false 7 (dropL (rowsA (DV.sla false 7 es)) id)))), (7, (.ptr 7 7 0 0)), (9, (.d (.int .i64 ((↑(frP (rowsA (DV.sla false 7 (dropL (rowsA (DV.sla false 7 es)) id))) [DV.int .i64 (cellA (dropP (rowsA (DV.sla false 7 es)) id) (0 : Nat)).toI, DV.int .i64 (cellA (dropP (rowsA (DV.sla false 7 es)) id) (1 : Nat)).toI, DV.int .i64 (cellA (dropP (rowsA (DV.sla false 7 es)) id) (2 : Nat)).toI, DV.int .i64 (cellA (dropP (rowsA (DV.sla false 7 es)) id) (3 : Nat)).toI, DV.int .i64 (cellA (dropP (rowsA (DV.sla false 7 es)) id) (4 : Nat)).toI, DV.int .i64 (cellA (dropP (rowsA (DV.sla false 7 es)) id) (5 : Nat)).toI, DV.int .i64 (cellA (dropP (rowsA (DV.sla false 7 es)) id) (6 : Nat)).toI]) : Int)))))] [(13, .none), (7, (.some (.dat 38 7 [[(.int .i64 ((cellA (dropP (rowsA (DV.sla false 7 es)) id) (0 : Nat)).toI)), (.int .i64 ((cellA (dropP (rowsA (DV.sla false 7 es)) id) (1 : Nat)).toI)), (.int .i64 ((cellA (dropP (rowsA (DV.sla false 7 es)) id) (2 : Nat)).toI)), (.int .i64 ((cellA (dropP (rowsA (DV.sla false 7 es)) id) (3 : Nat)).toI)), (.int .i64 ((cellA (dropP (rowsA (DV.sla false 7 es)) id) (4 : Nat)).toI)), (.int .i64 ((cellA (dropP (rowsA (DV.sla false 7 es)) id) (5 : Nat)).toI)), (.int .i64 ((cellA (dropP (rowsA (DV.sla false 7 es)) id) (6 : Nat)).toI))]])))])))
 (need (FSpec.D (inbS) [(.sla false 7 (dropL (rowsA (DV.sla false 7 es)) id)), (.int .i64 ((↑(frP (rowsA (DV.sla false 7 (dropL (rowsA (DV.sla false 7 es)) id))) [DV.int .i64 (cellA (dropP (rowsA (DV.sla false 7 es)) id) (0 : Nat)).toI, DV.int .i64 (cellA (dropP (rowsA (DV.sla false 7 es)) id) (1 : Nat)).toI, DV.int .i64 (cellA (dropP (rowsA (DV.sla false 7 es)) id) (2 : Nat)).toI, DV.int .i64 (cellA (dropP (rowsA (DV.sla false 7 es)) id) (3 : Nat)).toI, DV.int .i64 (cellA (dropP (rowsA (DV.sla false 7 es)) id) (4 : Nat)).toI, DV.int .i64 (cellA (dropP (rowsA (DV.sla false 7 es)) id) (5 : Nat)).toI, DV.int .i64 (cellA (dropP (rowsA (DV.sla false 7 es)) id) (6 : Nat)).toI]) : Int))), (.agg [(.int .i64 ((cellA (dropP (rowsA (DV.sla false 7 es)) id) (0 : Nat)).toI)), (.int .i64 ((cellA (dropP (rowsA (DV.sla false 7 es)) id) (1 : Nat)).toI)), (.int .i64 ((cellA (dropP (rowsA (DV.sla false 7 es)) id) (2 : Nat)).toI)), (.int .i64 ((cellA (dropP (rowsA (DV.sla false 7 es)) id) (3 : Nat)).toI)), (.int .i64 ((cellA (dropP (rowsA (DV.sla false 7 es)) id) (4 : Nat)).toI)), (.int .i64 ((cellA (dropP (rowsA (DV.sla false 7 es)) id) (5 : Nat)).toI)), (.int .i64 ((cellA (dropP (rowsA (DV.sla false 7 es)) id) (6 : Nat)).toI))])])
 (some (.tuple [(.sla false 7 (inB (rowsA (DV.sla false 7 (dropL (rowsA (DV.sla false 7 es)) id))) (↑(frP (rowsA (DV.sla false 7 (dropL (rowsA (DV.sla false 7 es)) id))) [DV.int .i64 (cellA (dropP (rowsA (DV.sla false 7 es)) id) (0 : Nat)).toI, DV.int .i64 (cellA (dropP (rowsA (DV.sla false 7 es)) id) (1 : Nat)).toI, DV.int .i64 (cellA (dropP (rowsA (DV.sla false 7 es)) id) (2 : Nat)).toI, DV.int .i64 (cellA (dropP (rowsA (DV.sla false 7 es)) id) (3 : Nat)).toI, DV.int .i64 (cellA (dropP (rowsA (DV.sla false 7 es)) id) (4 : Nat)).toI, DV.int .i64 (cellA (dropP (rowsA (DV.sla false 7 es)) id) (5 : Nat)).toI, DV.int .i64 (cellA (dropP (rowsA (DV.sla false 7 es)) id) (6 : Nat)).toI]) : Int).toNat [DV.int .i64 (cellA (dropP (rowsA (DV.sla false 7 es)) id) (0 : Nat)).toI, DV.int .i64 (cellA (dropP (rowsA (DV.sla false 7 es)) id) (1 : Nat)).toI, DV.int .i64 (cellA (dropP (rowsA (DV.sla false 7 es)) id) (2 : Nat)).toI, DV.int .i64 (cellA (dropP (rowsA (DV.sla false 7 es)) id) (3 : Nat)).toI, DV.int .i64 (cellA (dropP (rowsA (DV.sla false 7 es)) id) (4 : Nat)).toI, DV.int .i64 (cellA (dropP (rowsA (DV.sla false 7 es)) id) (5 : Nat)).toI, DV.int .i64 (cellA (dropP (rowsA (DV.sla false 7 es)) id) (6 : Nat)).toI])), (.int .i64 ((0 : Int)))])))))) from by kernel_rfl).trans (by first | rfl | (simp only [decide_true, decide_false, eq_self, and_true, true_and, and_self, cond_true, cond_false, Nat.le_refl, Int.le_refl, Option.getD_some, Option.getD_none, Int.toNat_natCast, List.take_length, List.drop_zero, Nat.zero_add, List.nil_append, List.all_nil, List.append_nil, Bool.true_and, Bool.and_true, rowsA_sla, rowsA_sl, rowsA_nil, minus_zero, nat_le_cast, nat_nonneg, Option.isSome_some, Option.isSome_none, Bool.false_eq_true, false_and, and_false, if_true, if_false, implies_true, Int.toNat_zero, Bool.not_false, Bool.not_true, bne_self_eq_false]; done) | (simp only [decide_true, decide_false, eq_self, and_true, true_and, and_self, cond_true, cond_false, Nat.le_refl, Int.le_refl, Option.getD_some, Option.getD_none, Int.toNat_natCast, List.take_length, List.drop_zero, Nat.zero_add, List.nil_append, List.all_nil, List.append_nil, Bool.true_and, Bool.and_true, rowsA_sla, rowsA_sl, rowsA_nil, minus_zero, nat_le_cast, nat_nonneg, Option.isSome_some, Option.isSome_none, Bool.false_eq_true, false_and, and_false, if_true, if_false, implies_true, Int.toNat_zero, Bool.not_false, Bool.not_true, bne_self_eq_false]; rfl))
theorem t30 (L n : Nat) (es : List (List DV)) (a0 a1 a2 a3 a4 a5 a6 : Int) : FK tab spP7 lo L (n+8) 30 [.sla false 7 es, .agg [.int .i64 a0, .int .i64 a1, .int .i64 a2, .int .i64 a3, .int .i64 a4, .int .i64 a5, .int .i64 a6]] =
   (need (fndS.D [DV.sla false 7 es, DV.int .i64 a0])
 (bif decide (fI es a0 ≥ (0 : Int)) then some (DV.tuple [DV.sla false 7 es, DV.int .i64 6])
 else
 bif decide ((↑es.length : Int) ≥ (40 : Int)) then some (DV.tuple [DV.sla false 7 es, DV.int .i64 3])
 else
 need
 (behS.D
 [DV.sla false 7 es,
 DV.agg
 [DV.int .i64 a0, DV.int .i64 a1, DV.int .i64 a2, DV.int .i64 a3, DV.int .i64 a4, DV.int .i64 a5, DV.int .i64 a6]])
 (need
 (inbS.D
 [DV.sla false 7 es, DV.int .i64
 (↑(bhP es
 [DV.int .i64 a0, DV.int .i64 a1, DV.int .i64 a2, DV.int .i64 a3, DV.int .i64 a4, DV.int .i64 a5, DV.int .i64 a6]) :
 Int),
 DV.agg
 [DV.int .i64 a0, DV.int .i64 a1, DV.int .i64 a2, DV.int .i64 a3, DV.int .i64 a4, DV.int .i64 a5, DV.int .i64 a6]])
 (some
 (DV.tuple
 [DV.sla false 7
 (inB es
 (bhP es
 [DV.int .i64 a0, DV.int .i64 a1, DV.int .i64 a2, DV.int .i64 a3, DV.int .i64 a4, DV.int .i64 a5, DV.int .i64 a6])
 [DV.int .i64 a0, DV.int .i64 a1, DV.int .i64 a2, DV.int .i64 a3, DV.int .i64 a4, DV.int .i64 a5, DV.int .i64 a6]), DV.int .i64 0]))))) :=
  (show FK tab spP7 lo L (n+8) 30 [.sla false 7 es, .agg [.int .i64 a0, .int .i64 a1, .int .i64 a2, .int .i64 a3, .int .i64 a4, .int .i64 a5, .int .i64 a6]] =
 (need (FSpec.D (fndS) [(.sla false 7 es), (.int .i64 a0)])
 (cond (decide (fI (rowsA (DV.sla false 7 es)) a0 ≥ (0 : Int)))
 (some (.tuple [(.sla false 7 es), (.int .i64 ((6 : Int)))]))
 (cond (decide ((↑es.length : Int) ≥ (40 : Int)))
 (some (.tuple [(.sla false 7 es), (.int .i64 ((3 : Int)))]))
 (need (FSpec.D (behS) [(.sla false 7 es), (.agg [(.int .i64 a0), (.int .i64 a1), (.int .i64 a2), (.int .i64 a3), (.int .i64 a4), (.int .i64 a5), (.int .i64 a6)])])
 (need (FSpec.D (inbS) [(.sla false 7 es), (.int .i64 ((↑(bhP (rowsA (DV.sla false 7 es)) [DV.int .i64 a0, DV.int .i64 a1, DV.int .i64 a2, DV.int .i64 a3, DV.int .i64 a4, DV.int .i64 a5, DV.int .i64 a6]) : Int))), (.agg [(.int .i64 a0), (.int .i64 a1), (.int .i64 a2), (.int .i64 a3), (.int .i64 a4), (.int .i64 a5), (.int .i64 a6)])])
 (some (.tuple [(.sla false 7 (inB (rowsA (DV.sla false 7 es)) (↑(bhP (rowsA (DV.sla false 7 es)) [DV.int .i64 a0, DV.int .i64 a1, DV.int .i64 a2, DV.int .i64 a3, DV.int .i64 a4, DV.int .i64 a5, DV.int .i64 a6]) : Int).toNat [DV.int .i64 a0, DV.int .i64 a1, DV.int .i64 a2, DV.int .i64 a3, DV.int .i64 a4, DV.int .i64 a5, DV.int .i64 a6])), (.int .i64 ((0 : Int)))]))))))) from by kernel_rfl).trans (by first | rfl | (simp only [decide_true, decide_false, eq_self, and_true, true_and, and_self, cond_true, cond_false, Nat.le_refl, Int.le_refl, Option.getD_some, Option.getD_none, Int.toNat_natCast, List.take_length, List.drop_zero, Nat.zero_add, List.nil_append, List.all_nil, List.append_nil, Bool.true_and, Bool.and_true, rowsA_sla, rowsA_sl, rowsA_nil, minus_zero, nat_le_cast, nat_nonneg, Option.isSome_some, Option.isSome_none, Bool.false_eq_true, false_and, and_false, if_true, if_false, implies_true, Int.toNat_zero, Bool.not_false, Bool.not_true, bne_self_eq_false]; done) | (simp only [decide_true, decide_false, eq_self, and_true, true_and, and_self, cond_true, cond_false, Nat.le_refl, Int.le_refl, Option.getD_some, Option.getD_none, Int.toNat_natCast, List.take_length, List.drop_zero, Nat.zero_add, List.nil_append, List.all_nil, List.append_nil, Bool.true_and, Bool.and_true, rowsA_sla, rowsA_sl, rowsA_nil, minus_zero, nat_le_cast, nat_nonneg, Option.isSome_some, Option.isSome_none, Bool.false_eq_true, false_and, and_false, if_true, if_false, implies_true, Int.toNat_zero, Bool.not_false, Bool.not_true, bne_self_eq_false]; rfl))
theorem t32 (L n : Nat) (es : List (List DV)) (id : Int) : FK tab spP7 lo L (n+8) 32 [.sla false 7 es, .int .i64 id] =
   (need (drpS.D [DV.sla false 7 es, DV.int .i64 id])
 (bif dropE es id != (0 : Int) then some (DV.tuple [DV.sla false 7 es, DV.int .i64 (dropE es id)])
 else
 need
 (behS.D
 [DV.sla false 7 (dropL es id),
 DV.agg
 [DV.int .i64 (cellA (dropP es id) 0).toI, DV.int .i64 (cellA (dropP es id) 1).toI, DV.int .i64 (cellA (dropP es id) 2).toI, DV.int .i64 (cellA (dropP es id) 3).toI, DV.int .i64 (cellA (dropP es id) 4).toI, DV.int .i64 (cellA (dropP es id) 5).toI, DV.int .i64 (cellA (dropP es id) 6).toI]])
 (need
 (inbS.D
 [DV.sla false 7 (dropL es id), DV.int .i64
 (↑(bhP (dropL es id)
 [DV.int .i64 (cellA (dropP es id) 0).toI, DV.int .i64 (cellA (dropP es id) 1).toI, DV.int .i64 (cellA (dropP es id) 2).toI, DV.int .i64 (cellA (dropP es id) 3).toI, DV.int .i64 (cellA (dropP es id) 4).toI, DV.int .i64 (cellA (dropP es id) 5).toI, DV.int .i64 (cellA (dropP es id) 6).toI]) :
 Int),
 DV.agg
 [DV.int .i64 (cellA (dropP es id) 0).toI, DV.int .i64 (cellA (dropP es id) 1).toI, DV.int .i64 (cellA (dropP es id) 2).toI, DV.int .i64 (cellA (dropP es id) 3).toI, DV.int .i64 (cellA (dropP es id) 4).toI, DV.int .i64 (cellA (dropP es id) 5).toI, DV.int .i64 (cellA (dropP es id) 6).toI]])
 (some
 (DV.tuple
 [DV.sla false 7
 (inB (dropL es id)
 (bhP (dropL es id)
 [DV.int .i64 (cellA (dropP es id) 0).toI, DV.int .i64 (cellA (dropP es id) 1).toI, DV.int .i64 (cellA (dropP es id) 2).toI, DV.int .i64 (cellA (dropP es id) 3).toI, DV.int .i64 (cellA (dropP es id) 4).toI, DV.int .i64 (cellA (dropP es id) 5).toI, DV.int .i64 (cellA (dropP es id) 6).toI])
 [DV.int .i64 (cellA (dropP es id) 0).toI, DV.int .i64 (cellA (dropP es id) 1).toI, DV.int .i64 (cellA (dropP es id) 2).toI, DV.int .i64 (cellA (dropP es id) 3).toI, DV.int .i64 (cellA (dropP es id) 4).toI, DV.int .i64 (cellA (dropP es id) 5).toI, DV.int .i64 (cellA (dropP es id) 6).toI]), DV.int .i64 0]))))) :=
  (show FK tab spP7 lo L (n+8) 32 [.sla false 7 es, .int .i64 id] =
 (need (FSpec.D (drpS) [(.sla false 7 es), (.int .i64 id)])
 (cond (dropE (rowsA (DV.sla false 7 es)) id != (0 : Int))
 (some (.tuple [(.sla false 7 es), (.int .i64 (dropE (rowsA (DV.sla false 7 es)) id))]))
 (need (FSpec.D (behS) [(.sla false 7 (dropL (rowsA (DV.sla false 7 es)) id)), (.agg [(.int .i64 ((cellA (dropP (rowsA (DV.sla false 7 es)) id) (0 : Nat)).toI)), (.int .i64 ((cellA (dropP (rowsA (DV.sla false 7 es)) id) (1 : Nat)).toI)), (.int .i64 ((cellA (dropP (rowsA (DV.sla false 7 es)) id) (2 : Nat)).toI)), (.int .i64 ((cellA (dropP (rowsA (DV.sla false 7 es)) id) (3 : Nat)).toI)), (.int .i64 ((cellA (dropP (rowsA (DV.sla false 7 es)) id) (4 : Nat)).toI)), (.int .i64 ((cellA (dropP (rowsA (DV.sla false 7 es)) id) (5 : Nat)).toI)), (.int .i64 ((cellA (dropP (rowsA (DV.sla false 7 es)) id) (6 : Nat)).toI))])])
 (need (FSpec.D (inbS) [(.sla false 7 (dropL (rowsA (DV.sla false 7 es)) id)), (.int .i64 ((↑(bhP (rowsA (DV.sla false 7 (dropL (rowsA (DV.sla false 7 es)) id))) [DV.int .i64 (cellA (dropP (rowsA (DV.sla false 7 es)) id) (0 : Nat)).toI, DV.int .i64 (cellA (dropP (rowsA (DV.sla false 7 es)) id) (1 : Nat)).toI, DV.int .i64 (cellA (dropP (rowsA (DV.sla false 7 es)) id) (2 : Nat)).toI, DV.int .i64 (cellA (dropP (rowsA (DV.sla false 7 es)) id) (3 : Nat)).toI, DV.int .i64 (cellA (dropP (rowsA (DV.sla false 7 es)) id) (4 : Nat)).toI, DV.int .i64 (cellA (dropP (rowsA (DV.sla false 7 es)) id) (5 : Nat)).toI, DV.int .i64 (cellA (dropP (rowsA (DV.sla false 7 es)) id) (6 : Nat)).toI]) : Int))), (.agg [(.int .i64 ((cellA (dropP (rowsA (DV.sla false 7 es)) id) (0 : Nat)).toI)), (.int .i64 ((cellA (dropP (rowsA (DV.sla false 7 es)) id) (1 : Nat)).toI)), (.int .i64 ((cellA (dropP (rowsA (DV.sla false 7 es)) id) (2 : Nat)).toI)), (.int .i64 ((cellA (dropP (rowsA (DV.sla false 7 es)) id) (3 : Nat)).toI)), (.int .i64 ((cellA (dropP (rowsA (DV.sla false 7 es)) id) (4 : Nat)).toI)), (.int .i64 ((cellA (dropP (rowsA (DV.sla false 7 es)) id) (5 : Nat)).toI)), (.int .i64 ((cellA (dropP (rowsA (DV.sla false 7 es)) id) (6 : Nat)).toI))])])
 (some (.tuple [(.sla false 7 (inB (rowsA (DV.sla false 7 (dropL (rowsA (DV.sla false 7 es)) id))) (↑(bhP (rowsA (DV.sla false 7 (dropL (rowsA (DV.sla false 7 es)) id))) [DV.int .i64 (cellA (dropP (rowsA (DV.sla false 7 es)) id) (0 : Nat)).toI, DV.int .i64 (cellA (dropP (rowsA (DV.sla false 7 es)) id) (1 : Nat)).toI, DV.int .i64 (cellA (dropP (rowsA (DV.sla false 7 es)) id) (2 : Nat)).toI, DV.int .i64 (cellA (dropP (rowsA (DV.sla false 7 es)) id) (3 : Nat)).toI, DV.int .i64 (cellA (dropP (rowsA (DV.sla false 7 es)) id) (4 : Nat)).toI, DV.int .i64 (cellA (dropP (rowsA (DV.sla false 7 es)) id) (5 : Nat)).toI, DV.int .i64 (cellA (dropP (rowsA (DV.sla false 7 es)) id) (6 : Nat)).toI]) : Int).toNat [DV.int .i64 (cellA (dropP (rowsA (DV.sla false 7 es)) id) (0 : Nat)).toI, DV.int .i64 (cellA (dropP (rowsA (DV.sla false 7 es)) id) (1 : Nat)).toI, DV.int .i64 (cellA (dropP (rowsA (DV.sla false 7 es)) id) (2 : Nat)).toI, DV.int .i64 (cellA (dropP (rowsA (DV.sla false 7 es)) id) (3 : Nat)).toI, DV.int .i64 (cellA (dropP (rowsA (DV.sla false 7 es)) id) (4 : Nat)).toI, DV.int .i64 (cellA (dropP (rowsA (DV.sla false 7 es)) id) (5 : Nat)).toI, DV.int .i64 (cellA (dropP (rowsA (DV.sla false 7 es)) id) (6 : Nat)).toI])), (.int .i64 ((0 : Int)))])))))) from by kernel_rfl).trans (by first | rfl | (simp only [decide_true, decide_false, eq_self, and_true, true_and, and_self, cond_true, cond_false, Nat.le_refl, Int.le_refl, Option.getD_some, Option.getD_none, Int.toNat_natCast, List.take_length, List.drop_zero, Nat.zero_add, List.nil_append, List.all_nil, List.append_nil, Bool.true_and, Bool.and_true, rowsA_sla, rowsA_sl, rowsA_nil, minus_zero, nat_le_cast, nat_nonneg, Option.isSome_some, Option.isSome_none, Bool.false_eq_true, false_and, and_false, if_true, if_false, implies_true, Int.toNat_zero, Bool.not_false, Bool.not_true, bne_self_eq_false]; done) | (simp only [decide_true, decide_false, eq_self, and_true, true_and, and_self, cond_true, cond_false, Nat.le_refl, Int.le_refl, Option.getD_some, Option.getD_none, Int.toNat_natCast, List.take_length, List.drop_zero, Nat.zero_add, List.nil_append, List.all_nil, List.append_nil, Bool.true_and, Bool.and_true, rowsA_sla, rowsA_sl, rowsA_nil, minus_zero, nat_le_cast, nat_nonneg, Option.isSome_some, Option.isSome_none, Bool.false_eq_true, false_and, and_false, if_true, if_false, implies_true, Int.toNat_zero, Bool.not_false, Bool.not_true, bne_self_eq_false]; rfl))
theorem t33 (L n : Nat) (es : List (List DV)) (id c : Int) : FK tab spP7 lo L (n+8) 33 [.sla false 7 es, .int .i64 id, .int .i64 c] =
   (need (drpS.D [DV.sla false 7 es, DV.int .i64 id])
 (bif dropE es id != (0 : Int) then some (DV.tuple [DV.sla false 7 es, DV.int .i64 (dropE es id)])
 else
 need
 (behS.D
 [DV.sla false 7 (dropL es id),
 DV.agg
 [DV.int .i64 (cellA (dropP es id) 0).toI, DV.int .i64 (cellA (dropP es id) 1).toI, DV.int .i64 (cellA (dropP es id) 2).toI, DV.int .i64 (cellA (dropP es id) 3).toI, DV.int .i64 c, DV.int .i64 (cellA (dropP es id) 5).toI, DV.int .i64 (cellA (dropP es id) 6).toI]])
 (need
 (inbS.D
 [DV.sla false 7 (dropL es id), DV.int .i64
 (↑(bhP (dropL es id)
 [DV.int .i64 (cellA (dropP es id) 0).toI, DV.int .i64 (cellA (dropP es id) 1).toI, DV.int .i64 (cellA (dropP es id) 2).toI, DV.int .i64 (cellA (dropP es id) 3).toI, DV.int .i64 c, DV.int .i64 (cellA (dropP es id) 5).toI, DV.int .i64 (cellA (dropP es id) 6).toI]) :
 Int),
 DV.agg
 [DV.int .i64 (cellA (dropP es id) 0).toI, DV.int .i64 (cellA (dropP es id) 1).toI, DV.int .i64 (cellA (dropP es id) 2).toI, DV.int .i64 (cellA (dropP es id) 3).toI, DV.int .i64 c, DV.int .i64 (cellA (dropP es id) 5).toI, DV.int .i64 (cellA (dropP es id) 6).toI]])
 (some
 (DV.tuple
 [DV.sla false 7
 (inB (dropL es id)
 (bhP (dropL es id)
 [DV.int .i64 (cellA (dropP es id) 0).toI, DV.int .i64 (cellA (dropP es id) 1).toI, DV.int .i64 (cellA (dropP es id) 2).toI, DV.int .i64 (cellA (dropP es id) 3).toI, DV.int .i64 c, DV.int .i64 (cellA (dropP es id) 5).toI, DV.int .i64 (cellA (dropP es id) 6).toI])
 [DV.int .i64 (cellA (dropP es id) 0).toI, DV.int .i64 (cellA (dropP es id) 1).toI, DV.int .i64 (cellA (dropP es id) 2).toI, DV.int .i64 (cellA (dropP es id) 3).toI, DV.int .i64 c, DV.int .i64 (cellA (dropP es id) 5).toI, DV.int .i64 (cellA (dropP es id) 6).toI]), DV.int .i64 0]))))) :=
  (show FK tab spP7 lo L (n+8) 33 [.sla false 7 es, .int .i64 id, .int .i64 c] =
 (need (FSpec.D (drpS) [(.sla false 7 es), (.int .i64 id)])
 (cond (dropE (rowsA (DV.sla false 7 es)) id != (0 : Int))
 (some (.tuple [(.sla false 7 es), (.int .i64 (dropE (rowsA (DV.sla false 7 es)) id))]))
 (need (FSpec.D (behS) [(.sla false 7 (dropL (rowsA (DV.sla false 7 es)) id)), (.agg [(.int .i64 ((cellA (dropP (rowsA (DV.sla false 7 es)) id) (0 : Nat)).toI)), (.int .i64 ((cellA (dropP (rowsA (DV.sla false 7 es)) id) (1 : Nat)).toI)), (.int .i64 ((cellA (dropP (rowsA (DV.sla false 7 es)) id) (2 : Nat)).toI)), (.int .i64 ((cellA (dropP (rowsA (DV.sla false 7 es)) id) (3 : Nat)).toI)), (.int .i64 c), (.int .i64 ((cellA (dropP (rowsA (DV.sla false 7 es)) id) (5 : Nat)).toI)), (.int .i64 ((cellA (dropP (rowsA (DV.sla false 7 es)) id) (6 : Nat)).toI))])])
 (need (FSpec.D (inbS) [(.sla false 7 (dropL (rowsA (DV.sla false 7 es)) id)), (.int .i64 ((↑(bhP (rowsA (DV.sla false 7 (dropL (rowsA (DV.sla false 7 es)) id))) [DV.int .i64 (cellA (dropP (rowsA (DV.sla false 7 es)) id) (0 : Nat)).toI, DV.int .i64 (cellA (dropP (rowsA (DV.sla false 7 es)) id) (1 : Nat)).toI, DV.int .i64 (cellA (dropP (rowsA (DV.sla false 7 es)) id) (2 : Nat)).toI, DV.int .i64 (cellA (dropP (rowsA (DV.sla false 7 es)) id) (3 : Nat)).toI, DV.int .i64 c, DV.int .i64 (cellA (dropP (rowsA (DV.sla false 7 es)) id) (5 : Nat)).toI, DV.int .i64 (cellA (dropP (rowsA (DV.sla false 7 es)) id) (6 : Nat)).toI]) : Int))), (.agg [(.int .i64 ((cellA (dropP (rowsA (DV.sla false 7 es)) id) (0 : Nat)).toI)), (.int .i64 ((cellA (dropP (rowsA (DV.sla false 7 es)) id) (1 : Nat)).toI)), (.int .i64 ((cellA (dropP (rowsA (DV.sla false 7 es)) id) (2 : Nat)).toI)), (.int .i64 ((cellA (dropP (rowsA (DV.sla false 7 es)) id) (3 : Nat)).toI)), (.int .i64 c), (.int .i64 ((cellA (dropP (rowsA (DV.sla false 7 es)) id) (5 : Nat)).toI)), (.int .i64 ((cellA (dropP (rowsA (DV.sla false 7 es)) id) (6 : Nat)).toI))])])
 (some (.tuple [(.sla false 7 (inB (rowsA (DV.sla false 7 (dropL (rowsA (DV.sla false 7 es)) id))) (↑(bhP (rowsA (DV.sla false 7 (dropL (rowsA (DV.sla false 7 es)) id))) [DV.int .i64 (cellA (dropP (rowsA (DV.sla false 7 es)) id) (0 : Nat)).toI, DV.int .i64 (cellA (dropP (rowsA (DV.sla false 7 es)) id) (1 : Nat)).toI, DV.int .i64 (cellA (dropP (rowsA (DV.sla false 7 es)) id) (2 : Nat)).toI, DV.int .i64 (cellA (dropP (rowsA (DV.sla false 7 es)) id) (3 : Nat)).toI, DV.int .i64 c, DV.int .i64 (cellA (dropP (rowsA (DV.sla false 7 es)) id) (5 : Nat)).toI, DV.int .i64 (cellA (dropP (rowsA (DV.sla false 7 es)) id) (6 : Nat)).toI]) : Int).toNat [DV.int .i64 (cellA (dropP (rowsA (DV.sla false 7 es)) id) (0 : Nat)).toI, DV.int .i64 (cellA (dropP (rowsA (DV.sla false 7 es)) id) (1 : Nat)).toI, DV.int .i64 (cellA (dropP (rowsA (DV.sla false 7 es)) id) (2 : Nat)).toI, DV.int .i64 (cellA (dropP (rowsA (DV.sla false 7 es)) id) (3 : Nat)).toI, DV.int .i64 c, DV.int .i64 (cellA (dropP (rowsA (DV.sla false 7 es)) id) (5 : Nat)).toI, DV.int .i64 (cellA (dropP (rowsA (DV.sla false 7 es)) id) (6 : Nat)).toI])), (.int .i64 ((0 : Int)))])))))) from by kernel_rfl).trans (by first | rfl | (simp only [decide_true, decide_false, eq_self, and_true, true_and, and_self, cond_true, cond_false, Nat.le_refl, Int.le_refl, Option.getD_some, Option.getD_none, Int.toNat_natCast, List.take_length, List.drop_zero, Nat.zero_add, List.nil_append, List.all_nil, List.append_nil, Bool.true_and, Bool.and_true, rowsA_sla, rowsA_sl, rowsA_nil, minus_zero, nat_le_cast, nat_nonneg, Option.isSome_some, Option.isSome_none, Bool.false_eq_true, false_and, and_false, if_true, if_false, implies_true, Int.toNat_zero, Bool.not_false, Bool.not_true, bne_self_eq_false]; done) | (simp only [decide_true, decide_false, eq_self, and_true, true_and, and_self, cond_true, cond_false, Nat.le_refl, Int.le_refl, Option.getD_some, Option.getD_none, Int.toNat_natCast, List.take_length, List.drop_zero, Nat.zero_add, List.nil_append, List.all_nil, List.append_nil, Bool.true_and, Bool.and_true, rowsA_sla, rowsA_sl, rowsA_nil, minus_zero, nat_le_cast, nat_nonneg, Option.isSome_some, Option.isSome_none, Bool.false_eq_true, false_and, and_false, if_true, if_false, implies_true, Int.toNat_zero, Bool.not_false, Bool.not_true, bne_self_eq_false]; rfl))
theorem ah_cond (x1 x4 a1 a4 : Int) (e p : List DV) (h1 : frm e = x1) (h4 : cls e = x4) (g1 : frm p = a1) (g4 : cls p = a4) : cond (decide (x1 < a1)) true (cond (x1 == a1) (decide (x4 ≤ a4)) false) = ahB e p := by
  subst h1 h4 g1 g4
  unfold ahB
  have : (frm e == frm p) = decide (frm e = frm p) := by
    by_cases h : frm e = frm p
    · rw [decide_eq_true h]; exact beq_iff_eq.2 h
    · rw [decide_eq_false h]; exact beq_eq_false_iff_ne.2 h
  rw [this]
  cases decide (frm e < frm p) <;> cases decide (frm e = frm p) <;> rfl
/-- a loop that goes on while a test holds stops at the first that fails -/
theorem loop_while {f : St → Kont → Option DV} (st : Nat → St) (out : Nat → Ex × St) (es : List (List DV)) (q : List DV → Bool)
    (hstep : ∀ (i : Nat) (hi : i < es.length) k, f (st i) k = cond (q es[i]) (k .nrm (st (i + 1))) (k (out i).1 (out i).2))
    (hend : ∀ k, f (st es.length) k = k (out es.length).1 (out es.length).2) (hne : ∀ i, (out i).1 ≠ .nrm) :
    LoopOk f (st 0) (out (es.takeWhile q).length) := by
  obtain ⟨p0, p1, p2⟩ := tw_spec q es
  generalize hb : (es.takeWhile q).length = b at *
  refine loop_meas st (fun i => es.length - i) (fun i => i ≤ b) (fun _ => out b) (fun i hs => ?_) 0 (Nat.zero_le _)
  by_cases hi : i < es.length
  · cases hc : q es[i] with
    | true =>
      left
      have hlt : i < b := by
        apply Nat.lt_of_not_le
        intro hge
        have : i = b := by omega
        subst this
        rw [p2 hi] at hc
        cases hc
      exact ⟨i + 1, hlt, by omega, rfl, fun k => by rw [hstep i hi, hc]; rfl⟩
    | false =>
      right
      have : i = b := by
        apply Nat.le_antisymm hs
        apply Nat.le_of_not_lt
        intro hlt
        rw [p1 i hlt hi] at hc
        cases hc
      subst this
      exact ⟨hne _, fun k => by rw [hstep i hi, hc, cond_false]⟩
  · right
    have h1 : i = es.length := by omega
    have h2 : b = es.length := by omega
    subst h2
    subst h1
    exact ⟨hne _, fun k => hend k⟩
theorem loop450 (L n : Nat) {es : List (List DV)} (hz : ∀ e ∈ es, okRow z7 e = true) (hl : es.length ≤ 1000) {p : List DV} (hp : okRow z7 p = true) :
    LoopOk (LB tab noSp lo (L+4) (n+4) h450 c45l0) (S450 es p 0) (.ex 0, St.of [(5, .d (.int .i64 (bhP es p)))] []) := by
  refine loop_while (fun i : Nat => S450 es p (i : Nat)) (fun i => (.ex 0, St.of [(5, .d (.int .i64 ((i : Nat) : Int)))] [])) es (fun e => ahB e p) (fun i hi k => ?_) (fun k => ?_) (fun i => by simp)
  · have hzi := hz _ (List.getElem_mem hi)
    obtain ⟨a0, a1, a2, a3, a4, a5, a6, rfl⟩ := okRow_p hp
    rw [s450, lt_dec hi, cond_true, look_nat hi, hzi, cond_true, wrap_succ (by omega), ah_cond (cellA es[i] 1).toI (cellA es[i] 4).toI a1 a4 es[i] [.int .i64 a0, .int .i64 a1, .int .i64 a2, .int .i64 a3, .int .i64 a4, .int .i64 a5, .int .i64 a6] rfl rfl rfl rfl]
    rfl
  · obtain ⟨a0, a1, a2, a3, a4, a5, a6, rfl⟩ := okRow_p hp
    rw [s450, lt_dec_self]
    rfl
theorem loop310 (L n : Nat) {es : List (List DV)} (hz : ∀ e ∈ es, okRow z7 e = true) (hl : es.length ≤ 1000) {p : List DV} (hp : okRow z7 p = true) :
    LoopOk (LB tab spR7 lo (L+4) (n+4) h310 c31l0) (S310 es p 0) (.ex 0, S310 es p (frP es p)) := by
  refine loop_while (fun i : Nat => S310 es p (i : Nat)) (fun i => (.ex 0, S310 es p (i : Nat))) es (fun e => decide (ordI e p < 0)) (fun i hi k => ?_) (fun k => ?_) (fun i => by simp)
  · have hzi := hz _ (List.getElem_mem hi)
    obtain ⟨a0, a1, a2, a3, a4, a5, a6, rfl⟩ := okRow_p hp
    rw [s310, lt_dec hi, cond_true, look_nat hi, hzi, cond_true, wrap_succ (by omega), ah_cond a1 a4 (cellA es[i] 1).toI (cellA es[i] 4).toI [.int .i64 a0, .int .i64 a1, .int .i64 a2, .int .i64 a3, .int .i64 a4, .int .i64 a5, .int .i64 a6] es[i] rfl rfl rfl rfl]
    simp only [ord_lt]
    rfl
  · obtain ⟨a0, a1, a2, a3, a4, a5, a6, rfl⟩ := okRow_p hp
    rw [s310, lt_dec_self]
    rfl
theorem beh45 : behS.ok Try.prog 45 := fun ds r hD hv => by
  obtain ⟨x, p, rfl, ⟨hx, hz, hl⟩, hp⟩ := hD
  cases hv
  refine EntX.gen1 hx ?_
  generalize rowsA x = es at *
  have hL := loop450 16 (0 + 4) hz hl hp
  obtain ⟨a0, a1, a2, a3, a4, a5, a6, rfl⟩ := okRow_p hp
  exact spec_run (lsp := lo) tab_ok noSp_ok (16 + 4) (0 + 8) ((t45 (16 + 4) 0 es a0 a1 a2 a3 a4 a5 a6).trans (need_pos hL))
theorem resI {f : FuncId} {ds : List DV} {x : DV} {sz : Nat} {es : List (List DV)} (hx : DLe (roTop x) (.sla false sz es)) (h : EntX Try.prog f ds x) : EntX Try.prog f ds (.sla false sz es) :=
  h.res hx rfl
theorem in44 : inbS.ok Try.prog 44 := fun ds r hD hv => by
  obtain ⟨x, i, p, rfl, ⟨hx, hz, hl⟩, hp, hi⟩ := hD
  cases hv
  refine EntX.gen1 hx ?_
  generalize rowsA x = es at *
  rw [Int.toNat_natCast]
  obtain ⟨a0, a1, a2, a3, a4, a5, a6, rfl⟩ := okRow_p hp
  have h := t44 20 0 es (i : Nat) a0 a1 a2 a3 a4 a5 a6
  have hz3 : ∀ e ∈ es.take i, okRow z7 e = true := fun e he => hz e (List.mem_of_mem_take he)
  have hz4 : ∀ e ∈ es.drop i, okRow z7 e = true := fun e he => hz e (List.mem_of_mem_drop he)
  have l3 : (es.take i).length ≤ 1000 := by rw [List.length_take]; omega
  have l4 : (es.drop i).length ≤ 1000 := by rw [List.length_drop]; omega
  rw [Int.toNat_natCast, decide_eq_true (show (0 : Int) ≤ ((i : Nat) : Int) by omega), decide_eq_true (show ((i : Nat) : Int) ≤ (es.length : Int) by omega)] at h
  unfold inB
  generalize es.take i = A at *
  generalize es.drop i = B at *
  generalize hpp : [DV.int .i64 a0, .int .i64 a1, .int .i64 a2, .int .i64 a3, .int .i64 a4, .int .i64 a5, .int .i64 a6] = p at *
  have q1 : decide ((B.length + 1) * 56 ≤ room ∧ B.length + 1 ≤ room) = true := room7 (by omega)
  have q2 : decide (A.length * 56 ≤ room ∧ A.length ≤ room) = true := room7 (by omega)
  have q3 : decide ((A ++ [p]).length * 56 ≤ room ∧ (A ++ [p]).length ≤ room) = true := room7 (by rw [List.length_append]; simp; omega)
  have q4 : decide ((A ++ [p] ++ B).length * 56 ≤ room ∧ (A ++ [p] ++ B).length ≤ room) = true := room7 (by rw [List.length_append, List.length_append]; simp; omega)
  rw [all_one7 hz3, all_one7 hz4, q1, q2, q3, q4] at h
  simp only [cond_true] at h
  by_cases hA : A.length = 0
  · have : A = [] := List.eq_nil_of_length_eq_zero hA
    subst this
    rw [decide_eq_true hA, cond_true] at h
    by_cases hB : B.length = 0
    · have : B = [] := List.eq_nil_of_length_eq_zero hB
      subst this
      rw [decide_eq_true hB, cond_true] at h
      exact resI (x := .sl (.own 38) 7 [p]) (DLe.sl _ _ _) (spec_run (lsp := lo) tab_ok noSp_ok 20 (0 + 8) h)
    · rw [decide_eq_false hB, cond_false] at h
      exact resI (x := .sl (.own 38) 7 (p :: B)) (DLe.sl _ _ _) (spec_run (lsp := lo) tab_ok noSp_ok 20 (0 + 8) h)
  · rw [decide_eq_false hA, cond_false] at h
    by_cases hB : B.length = 0
    · have : B = [] := List.eq_nil_of_length_eq_zero hB
      subst this
      rw [decide_eq_true hB, cond_true] at h
      exact resI (x := .sl (.own 38) 7 (A ++ [p])) (DLe.sl _ _ _) (spec_run (lsp := lo) tab_ok noSp_ok 20 (0 + 8) h)
    · rw [decide_eq_false hB, cond_false] at h
      rw [show A ++ p :: B = A ++ [p] ++ B by simp]
      exact resI (x := .sl (.own 38) 7 (A ++ [p] ++ B)) (DLe.sl _ _ _) (spec_run (lsp := lo) tab_ok noSp_ok 20 (0 + 8) h)
theorem spP7_ok : ∀ f s, spP7 f = some s → s.ok Try.prog f := spAdd_ok fnd26 (spAdd_ok drop25 (spAdd_ok in44 (spAdd_ok beh45 noSp_ok)))
theorem spR7_ok : ∀ f s, spR7 f = some s → s.ok Try.prog f := spAdd_ok drop25 (spAdd_ok in44 noSp_ok)
theorem put30 : putS.ok Try.prog 30 := fun ds r hD hv => by
  obtain ⟨x, p, rfl, ⟨hx, hz, hl⟩, hp⟩ := hD
  cases hv
  refine EntX.gen1 hx ?_
  generalize rowsA x = es at *
  have hI : I7 1000 (.sla false 7 es) := ⟨Sl.sla _ _ _, hz, hl⟩
  have nB : behS.D [.sla false 7 es, .agg p] := ⟨_, _, rfl, hI, hp⟩
  have nI : inbS.D [.sla false 7 es, .int .i64 ((bhP es p : Nat) : Int), .agg p] := ⟨_, _, _, rfl, hI, hp, bh_le es p⟩
  obtain ⟨a0, a1, a2, a3, a4, a5, a6, rfl⟩ := okRow_p hp
  have h := (t30 20 0 es a0 a1 a2 a3 a4 a5 a6).trans (need_pos ⟨_, _, rfl, hI⟩)
  have hid : idO [DV.int .i64 a0, .int .i64 a1, .int .i64 a2, .int .i64 a3, .int .i64 a4, .int .i64 a5, .int .i64 a6] = a0 := rfl
  have eg2 : decide (((es.length : Nat) : Int) ≥ (40 : Int)) = decide (40 ≤ es.length) := decide_eq_decide.2 (by omega)
  have eg : decide (fI es a0 ≥ (0 : Int)) = decide (0 ≤ fI es a0) := rfl
  rw [eg, eg2] at h
  unfold putL putE
  rw [hid]
  refine spec_run (lsp := lo) tab_ok spP7_ok 20 (0 + 8) (h.trans ?_)
  cases decide (0 ≤ fI es a0) with
  | true => rfl
  | false =>
    cases decide (40 ≤ es.length) with
    | true => rfl
    | false => exact (need_pos nB).trans (need_pos nI)
theorem dropP_ok {es : List (List DV)} (hz : ∀ e ∈ es, okRow z7 e = true) (id : Int) : okRow z7 (dropP es id) = true := by
  unfold dropP
  cases decide (fI es id < 0) with
  | true => rfl
  | false =>
    rw [cond_false]
    cases h : es[(fI es id).toNat]? with
    | none => rfl
    | some e => exact hz _ (List.mem_of_getElem? h)
theorem front31 : frnS.ok Try.prog 31 := fun ds r hD hv => by
  obtain ⟨x, id, rfl, hx, hz, hl⟩ := hD
  cases hv
  refine EntX.gen1 hx ?_
  generalize rowsA x = es at *
  have hI : I7 1000 (.sla false 7 es) := ⟨Sl.sla _ _ _, hz, hl⟩
  have h := (t31 (16 + 4) 0 es id).trans (need_pos ⟨_, _, rfl, hI⟩)
  have hp := dropP_ok hz id
  obtain ⟨d1, d2⟩ := drop_rows hz id
  rw [eta7 hp] at h
  unfold frnL frnE
  by_cases h1 : fI es id < 0
  · have e : dropE es id = 4 := by unfold dropE; rw [decide_eq_true h1]; rfl
    rw [e] at h
    rw [decide_eq_true h1]
    exact spec_run (lsp := lo) tab_ok spR7_ok (16 + 4) (0 + 8) h
  · have e : dropE es id = 0 := by unfold dropE; rw [decide_eq_false h1]; rfl
    rw [e] at h
    rw [decide_eq_false h1]
    exact spec_run (lsp := lo) tab_ok spR7_ok (16 + 4) (0 + 8) ((h.trans (need_pos (loop310 16 (0 + 4) d1 (by omega) hp))).trans (need_pos ⟨_, _, _, rfl, ⟨Sl.sla _ _ _, d1, by rw [rowsA_sla]; omega⟩, hp, fr_le _ _⟩))
/-- of a row: one that is there, taken out -/
theorem take_id {es : List (List DV)} (h : isP es = true) {id : Int} (hf : ¬ fI es id < 0) :
    dropE es id = 0 ∧ ND (dropL es id) ∧ (dropL es id).Pairwise (fun a b => ahB a b = true) ∧ (∀ a ∈ dropL es id, idO a ≠ id) ∧ (dropL es id).length + 1 = es.length ∧ idO (dropP es id) = id ∧ (dropL es id).length < 40 := by
  obtain ⟨hi, hid⟩ := fI_at es id (by omega)
  obtain ⟨t1, t2, t3, t4, t5, t6, t7, t8⟩ := take_out h hi
  have h40 := ((isP_iff es).1 h).2.1
  rw [hid] at t1 t2 t3 t4 t7
  rw [t2, t3, t4]
  exact ⟨rfl, t5, t6, t7, t8, hid, by omega⟩
def bkdS : FSpec where
  D ds := ∃ x id, ds = [x, .int .i64 id] ∧ I7 1000 x ∧ isP (rowsA x) = true
  val := bakS.val
def cldS : FSpec where
  D ds := ∃ x id c, ds = [x, .int .i64 id, .int .i64 c] ∧ I7 1000 x ∧ isP (rowsA x) = true
  val := clsS.val
theorem back32 : bkdS.ok Try.prog 32 := fun ds r hD hv => by
  obtain ⟨x, id, rfl, ⟨hx, hz, hl⟩, hP⟩ := hD
  cases hv
  refine EntX.gen1 hx ?_
  generalize rowsA x = es at *
  have hI : I7 1000 (.sla false 7 es) := ⟨Sl.sla _ _ _, hz, hl⟩
  have h := (t32 20 0 es id).trans (need_pos ⟨_, _, rfl, hI⟩)
  have hp : okRow z7 (pay7 (dropP es id)) = true := rfl
  have hp2 := eta7 (dropP_ok hz id)
  obtain ⟨d1, d2⟩ := drop_rows hz id
  have hI2 : I7 1000 (.sla false 7 (dropL es id)) := ⟨Sl.sla _ _ _, d1, by rw [rowsA_sla]; omega⟩
  unfold bakL bakE
  by_cases h1 : fI es id < 0
  · have e : dropE es id = 4 := by unfold dropE; rw [decide_eq_true h1]; rfl
    rw [e] at h
    rw [decide_eq_true h1]
    exact spec_run (lsp := lo) tab_ok spP7_ok 20 (0 + 8) h
  · obtain ⟨e, t1, t2, t3, t4, t5, t6⟩ := take_id hP h1
    rw [e] at h
    obtain ⟨p1, p2, -⟩ := put_in t1 t2 t6 (p := pay7 (dropP es id)) (fun a ha => by rw [show idO (pay7 (dropP es id)) = idO (dropP es id) from rfl, t5]; exact t3 a ha)
    rw [decide_eq_false h1, cond_false, cond_false, p2, p1]
    exact spec_run (lsp := lo) tab_ok spP7_ok 20 (0 + 8) ((h.trans (need_pos ⟨_, _, rfl, hI2, hp⟩)).trans (need_pos ⟨_, _, _, rfl, hI2, hp, bh_le _ _⟩))
theorem class33 : cldS.ok Try.prog 33 := fun ds r hD hv => by
  obtain ⟨x, id, c, rfl, ⟨hx, hz, hl⟩, hP⟩ := hD
  cases hv
  refine EntX.gen1 hx ?_
  generalize rowsA x = es at *
  have hI : I7 1000 (.sla false 7 es) := ⟨Sl.sla _ _ _, hz, hl⟩
  have h := (t33 20 0 es id c).trans (need_pos ⟨_, _, rfl, hI⟩)
  have hp : okRow z7 (setC (dropP es id) c) = true := rfl
  obtain ⟨d1, d2⟩ := drop_rows hz id
  have hI2 : I7 1000 (.sla false 7 (dropL es id)) := ⟨Sl.sla _ _ _, d1, by rw [rowsA_sla]; omega⟩
  unfold clsL clsE
  by_cases h1 : fI es id < 0
  · have e : dropE es id = 4 := by unfold dropE; rw [decide_eq_true h1]; rfl
    rw [e] at h
    rw [decide_eq_true h1]
    exact spec_run (lsp := lo) tab_ok spP7_ok 20 (0 + 8) h
  · obtain ⟨e, t1, t2, t3, t4, t5, t6⟩ := take_id hP h1
    rw [e] at h
    obtain ⟨p1, p2, -⟩ := put_in t1 t2 t6 (p := setC (dropP es id) c) (fun a ha => by rw [show idO (setC (dropP es id) c) = idO (dropP es id) from rfl, t5]; exact t3 a ha)
    rw [decide_eq_false h1, cond_false, cond_false, p2, p1]
    exact spec_run (lsp := lo) tab_ok spP7_ok 20 (0 + 8) ((h.trans (need_pos ⟨_, _, rfl, hI2, hp⟩)).trans (need_pos ⟨_, _, _, rfl, hI2, hp, bh_le _ _⟩))
end Go.Proofs.Ytngghbloijkfoaa
