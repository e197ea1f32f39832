/- What is known of the functions on rows of payments, by their runs: order, find, is it a row. No condition. -/
import Derived.Test.YtngghbloijkfoaaIc
import Derived.Test.YtngghbloijkfoaaInsE
namespace Go.Proofs.Ytngghbloijkfoaa
open Go Go.Proofs Go.RowKit Vm
set_option linter.unusedVariables false
set_option linter.unusedSimpArgs false
abbrev z7 : List DV := [.int .i64 0, .int .i64 0, .int .i64 0, .int .i64 0, .int .i64 0, .int .i64 0, .int .i64 0]
def I7 (n : Nat) (x : DV) : Prop := Sl 7 x ∧ (∀ e ∈ rowsA x, okRow z7 e = true) ∧ (rowsA x).length ≤ n
def idO (e : List DV) : Int := (cellA e 0).toI
def frm (e : List DV) : Int := (cellA e 1).toI
def cls (e : List DV) : Int := (cellA e 4).toI
def ordI (a b : List DV) : Int := cond (decide (frm a < frm b)) (-1) (cond (decide (frm a > frm b)) 1 (cond (decide (cls a < cls b)) (-1) (cond (decide (cls a > cls b)) 1 0)))
def ahB (a b : List DV) : Bool := decide (frm a < frm b) || (decide (frm a = frm b) && decide (cls a ≤ cls b))
def fI (es : List (List DV)) (id : Int) : Int := match es with
  | [] => -1
  | e :: l => cond (idO e == id) 0 (cond (decide (fI l id < 0)) (-1) (fI l id + 1))
def ordS : FSpec where
  D ds := ∃ a b, ds = [.agg a, .agg b] ∧ okRow z7 a = true ∧ okRow z7 b = true
  val ds := match ds with | [.agg a, .agg b] => some (.int .i64 (ordI a b)) | _ => none
def ahS : FSpec where
  D ds := ∃ a b, ds = [.agg a, .agg b] ∧ okRow z7 a = true ∧ okRow z7 b = true
  val ds := match ds with | [.agg a, .agg b] => some (.bool (ahB a b)) | _ => none
def fndS : FSpec where
  D ds := ∃ x id, ds = [x, .int .i64 id] ∧ I7 1000 x
  val ds := match ds with | [x, .int _ id] => some (.int .i64 (fI (rowsA x) id)) | _ => none
def S260 (x : DV) (id i : Int) : St := St.of [(0, .d x), (1, .d (.int .i64 id)), (5, .d (.int .i64 i))] []
def S460 (x : DV) (id N i : Int) : St := St.of [(0, .d x), (1, .d (.func 47 [.rptr [.int .i64 id] 0])), (7, .d (.int .i64 N)), (8, .d (.int .i64 i))] []
def lF : LSpec := fun st => match st.env 0, st.env 1 with
  | .d x, .d (.int _ id) => .br (decide (fI (rowsA x) id < 0)) (.one (.ex 0) (St.of [] [])) (.one .ret (St.of [(4, .d (.int .i64 (fI (rowsA x) id)))] []))
  | .d x, .d (.func _ [.rptr [.int _ id] _]) => .br (decide (fI (rowsA x) id < 0)) (.one (.ex 0) (St.of [] [])) (.one .ret (St.of [(4, .d (.int .i64 (fI (rowsA x) id)))] []))
  | _, _ => .no
def lr (k : Nat) : Option LSpec := if k = 260 then some lF else if k = 460 then some lF else none
def fnfS : FSpec where
  D ds := ∃ x id, ds = [x, .func 47 [.rptr [.int .i64 id] 0]] ∧ I7 1000 x
  val ds := match ds with | [x, .func _ [.rptr [.int _ id] _]] => some (.int .i64 (fI (rowsA x) id)) | _ => none
noncomputable def spI : FuncId → Option FSpec := spAdd 46 fnfS noSp
theorem t39 (L n : Nat) (a0 a1 a2 a3 a4 a5 a6 b0 b1 b2 b3 b4 b5 b6 : Int) : FK tab noSp lsp0 (L+4) (n+8) 39 [.agg [.int .i64 a0, .int .i64 a1, .int .i64 a2, .int .i64 a3, .int .i64 a4, .int .i64 a5, .int .i64 a6], .agg [.int .i64 b0, .int .i64 b1, .int .i64 b2, .int .i64 b3, .int .i64 b4, .int .i64 b5, .int .i64 b6]] =
   (bif decide (a1 < b1) then
 bif decide (a4 < b4) then some (DV.int .i64 (-1 : Int))
 else bif decide (a4 > b4) then some (DV.int .i64 (-1 : Int)) else some (DV.int .i64 (-1 : Int))
 else
 bif decide (a1 > b1) then
 bif decide (a4 < b4) then some (DV.int .i64 1)
 else bif decide (a4 > b4) then some (DV.int .i64 1) else some (DV.int .i64 1)
 else
 bif decide (a4 < b4) then some (DV.int .i64 (-1 : Int))
 else bif decide (a4 > b4) then some (DV.int .i64 1) else some (DV.int .i64 0)) :=
  (show FK tab noSp lsp0 (L+4) (n+8) 39 [.agg [.int .i64 a0, .int .i64 a1, .int .i64 a2, .int .i64 a3, .int .i64 a4, .int .i64 a5, .int .i64 a6], .agg [.int .i64 b0, .int .i64 b1, .int .i64 b2, .int .i64 b3, .int .i64 b4, .int .i64 b5, .int .i64 b6]] =
 (cond (a1 != a1)
 (cond (b1 != b1)
 (cond (a4 != a4)
 (cond (b4 != b4)
 (some (.int .i64 ((0 : Int))))
 (some (.int .i64 ((-1 : Int)))))
 (cond (b4 != b4)
 (some (.int .i64 ((1 : Int))))
 (cond (decide (a4 < b4))
 (some (.int .i64 ((-1 : Int))))
 (cond (decide (a4 > b4))
 (some (.int .i64 ((1 : Int))))
 (some (.int .i64 ((0 : Int))))))))
 (cond (a4 != a4)
 (cond (b4 != b4)
 (some (.int .i64 ((-1 : Int))))
 (some (.int .i64 ((-1 : Int)))))
 (cond (b4 != b4)
 (some (.int .i64 ((-1 : Int))))
 (cond (decide (a4 < b4))
 (some (.int .i64 ((-1 : Int))))
 (cond (decide (a4 > b4))
 (some (.int .i64 ((-1 : Int))))
 (some (.int .i64 ((-1 : Int)))))))))
 (cond (b1 != b1)
 (cond (a4 != a4)
 (cond (b4 != b4)
 (some (.int .i64 ((1 : Int))))
 (some (.int .i64 ((1 : Int)))))
 (cond (b4 != b4)
 (some (.int .i64 ((1 : Int))))
 (cond (decide (a4 < b4))
 (some (.int .i64 ((1 : Int))))
 (cond (decide (a4 > b4))
 (some (.int .i64 ((1 : Int))))
 (some (.int .i64 ((1 : Int))))))))
 (cond (decide (a1 < b1))
 (cond (a4 != a4)
 (cond (b4 != b4)
 (some (.int .i64 ((-1 : Int))))
 (some (.int .i64 ((-1 : Int)))))
 (cond (b4 != b4)
 (some (.int .i64 ((-1 : Int))))
 (cond (decide (a4 < b4))
 (some (.int .i64 ((-1 : Int))))
 (cond (decide (a4 > b4))
 (some (.int .i64 ((-1 : Int))))
 (some (.int .i64 ((-1 : Int))))))))
 (cond (decide (a1 > b1))
 (cond (a4 != a4)
 (cond (b4 != b4)
 (some (.int .i64 ((1 : Int))))
 (some (.int .i64 ((1 : Int)))))
 (cond (b4 != b4)
 (some (.int .i64 ((1 : Int))))
 (cond (decide (a4 < b4))
 (some (.int .i64 ((1 : Int))))
 (cond (decide (a4 > b4))
 (some (.int .i64 ((1 : Int))))
 (some (.int .i64 ((1 : Int))))))))
 (cond (a4 != a4)
 (cond (b4 != b4)
 (some (.int .i64 ((0 : Int))))
 (some (.int .i64 ((-1 : Int)))))
 (cond (b4 != b4)
 (some (.int .i64 ((1 : Int))))
 (cond (decide (a4 < b4))
 (some (.int .i64 ((-1 : Int))))
 (cond (decide (a4 > b4))
 (some (.int .i64 ((1 : Int))))
 (some (.int .i64 ((0 : Int)))))))))))) from by kernel_rfl).trans (by first | rfl | (simp only [decide_true, decide_false, eq_self, and_true, true_and, and_self, cond_true, cond_false, Nat.le_refl, Int.le_refl, Option.getD_some, Option.getD_none, Int.toNat_natCast, List.take_length, List.drop_zero, Nat.zero_add, List.nil_append, List.all_nil, List.append_nil, Bool.true_and, Bool.and_true, rowsA_sla, rowsA_sl, rowsA_nil, minus_zero, nat_le_cast, nat_nonneg, Option.isSome_some, Option.isSome_none, Bool.false_eq_true, false_and, and_false, if_true, if_false, implies_true, Int.toNat_zero, Bool.not_false, Bool.not_true, bne_self_eq_false]; done) | (simp only [decide_true, decide_false, eq_self, and_true, true_and, and_self, cond_true, cond_false, Nat.le_refl, Int.le_refl, Option.getD_some, Option.getD_none, Int.toNat_natCast, List.take_length, List.drop_zero, Nat.zero_add, List.nil_append, List.all_nil, List.append_nil, Bool.true_and, Bool.and_true, rowsA_sla, rowsA_sl, rowsA_nil, minus_zero, nat_le_cast, nat_nonneg, Option.isSome_some, Option.isSome_none, Bool.false_eq_true, false_and, and_false, if_true, if_false, implies_true, Int.toNat_zero, Bool.not_false, Bool.not_true, bne_self_eq_false]; rfl))
theorem t40 (L n : Nat) (a0 a1 a2 a3 a4 a5 a6 b0 b1 b2 b3 b4 b5 b6 : Int) : FK tab noSp lsp0 L (n+8) 40 [.agg [.int .i64 a0, .int .i64 a1, .int .i64 a2, .int .i64 a3, .int .i64 a4, .int .i64 a5, .int .i64 a6], .agg [.int .i64 b0, .int .i64 b1, .int .i64 b2, .int .i64 b3, .int .i64 b4, .int .i64 b5, .int .i64 b6]] =
   (some (DV.bool (bif decide (a1 < b1) then true else bif a1 == b1 then decide (a4 ≤ b4) else false))) :=
  (show FK tab noSp lsp0 L (n+8) 40 [.agg [.int .i64 a0, .int .i64 a1, .int .i64 a2, .int .i64 a3, .int .i64 a4, .int .i64 a5, .int .i64 a6], .agg [.int .i64 b0, .int .i64 b1, .int .i64 b2, .int .i64 b3, .int .i64 b4, .int .i64 b5, .int .i64 b6]] =
 (some (.bool (bif decide (a1 < b1) then true else bif a1 == b1 then decide (a4 ≤ b4) else false))) from by kernel_rfl).trans (by first | rfl | (simp only [decide_true, decide_false, eq_self, and_true, true_and, and_self, cond_true, cond_false, Nat.le_refl, Int.le_refl, Option.getD_some, Option.getD_none, Int.toNat_natCast, List.take_length, List.drop_zero, Nat.zero_add, List.nil_append, List.all_nil, List.append_nil, Bool.true_and, Bool.and_true, rowsA_sla, rowsA_sl, rowsA_nil, minus_zero, nat_le_cast, nat_nonneg, Option.isSome_some, Option.isSome_none, Bool.false_eq_true, false_and, and_false, if_true, if_false, implies_true, Int.toNat_zero, Bool.not_false, Bool.not_true, bne_self_eq_false]; done) | (simp only [decide_true, decide_false, eq_self, and_true, true_and, and_self, cond_true, cond_false, Nat.le_refl, Int.le_refl, Option.getD_some, Option.getD_none, Int.toNat_natCast, List.take_length, List.drop_zero, Nat.zero_add, List.nil_append, List.all_nil, List.append_nil, Bool.true_and, Bool.and_true, rowsA_sla, rowsA_sl, rowsA_nil, minus_zero, nat_le_cast, nat_nonneg, Option.isSome_some, Option.isSome_none, Bool.false_eq_true, false_and, and_false, if_true, if_false, implies_true, Int.toNat_zero, Bool.not_false, Bool.not_true, bne_self_eq_false]; rfl))
theorem s260 (L n : Nat) (es : List (List DV)) (id : Int) (i : Nat) (k : Kont) : LB tab noSp lr L (n+4) h260 c26l0 (S260 (.sla false 7 es) id i) k =
   (bif decide ((↑i : Int) < (↑es.length : Int)) then
 lookK es[i]? fun (e1 : List DV) =>
 bif
 okRow
 [DV.int .i64 0, DV.int .i64 0, DV.int .i64 0, DV.int .i64 0, DV.int .i64 0, DV.int .i64 0, DV.int .i64 0]
 e1 then
 bif (cellA e1 0).toI == id then k Ex.ret (St.of [(4, AV.d (DV.int .i64 (↑i : Int)))] [])
 else
 k Ex.nrm
 (St.of
 [(0, AV.d (DV.sla false 7 es)), (1, AV.d (DV.int .i64 id)),
 ((5 : Nat), AV.d (DV.int .i64 (IntKind.i64.wrap ((↑i : Int) + (1 : Int)))))]
 [])
 else none
 else k (Ex.ex (0 : Nat)) (St.of [] [])) :=
  (show LB tab noSp lr L (n+4) h260 c26l0 (S260 (.sla false 7 es) id i) k =
 (cond (decide ((↑i : Int) < (↑es.length : Int)))
 (lookK (es[(↑i : Int).toNat]?)
 fun e1 =>
 (cond (okRow [DV.int .i64 0, DV.int .i64 0, DV.int .i64 0, DV.int .i64 0, DV.int .i64 0, DV.int .i64 0, DV.int .i64 0] e1)
 (cond ((cellA e1 0).toI == id)
 (k .ret (St.of [(4, (.d (.int .i64 ((↑i : Int)))))] []))
 (k .nrm (St.of [(0, (.d (.sla false 7 es))), (1, (.d (.int .i64 id))), (5, (.d (.int .i64 (IntKind.i64.wrap ((↑i : Int) + (1 : Int))))))] [])))
 none))
 (k (.ex 0) (St.of [] []))) from by kernel_rfl).trans (by first | rfl | (simp only [decide_true, decide_false, eq_self, and_true, true_and, and_self, cond_true, cond_false, Nat.le_refl, Int.le_refl, Option.getD_some, Option.getD_none, Int.toNat_natCast, List.take_length, List.drop_zero, Nat.zero_add, List.nil_append, List.all_nil, List.append_nil, Bool.true_and, Bool.and_true, rowsA_sla, rowsA_sl, rowsA_nil, minus_zero, nat_le_cast, nat_nonneg, Option.isSome_some, Option.isSome_none, Bool.false_eq_true, false_and, and_false, if_true, if_false, implies_true, Int.toNat_zero, Bool.not_false, Bool.not_true, bne_self_eq_false]; done) | (simp only [decide_true, decide_false, eq_self, and_true, true_and, and_self, cond_true, cond_false, Nat.le_refl, Int.le_refl, Option.getD_some, Option.getD_none, Int.toNat_natCast, List.take_length, List.drop_zero, Nat.zero_add, List.nil_append, List.all_nil, List.append_nil, Bool.true_and, Bool.and_true, rowsA_sla, rowsA_sl, rowsA_nil, minus_zero, nat_le_cast, nat_nonneg, Option.isSome_some, Option.isSome_none, Bool.false_eq_true, false_and, and_false, if_true, if_false, implies_true, Int.toNat_zero, Bool.not_false, Bool.not_true, bne_self_eq_false]; rfl))
theorem s460 (L n : Nat) (es : List (List DV)) (id N : Int) (i : Nat) (k : Kont) : LB tab noSp lr L (n+4) h460 c46l0 (S460 (.sla false 7 es) id N i) k =
   (bif decide ((↑i : Int) < N) then
 lookK es[i]? fun (e1 : List DV) =>
 bif
 okRow
 [DV.int .i64 0, DV.int .i64 0, DV.int .i64 0, DV.int .i64 0, DV.int .i64 0, DV.int .i64 0, DV.int .i64 0]
 e1 then
 bif (cellA e1 0).toI == id then k Ex.ret (St.of [(4, AV.d (DV.int .i64 (↑i : Int)))] [])
 else
 k Ex.nrm
 (St.of
 [(0, AV.d (DV.sla false 7 es)), (1, AV.d (DV.func (47 : FuncId) [DV.rptr [DV.int .i64 id] (0 : Nat)])),
 ((7 : Nat), AV.d (DV.int .i64 N)), (8, AV.d (DV.int .i64 (IntKind.i64.wrap ((↑i : Int) + (1 : Int)))))]
 [])
 else none
 else k (Ex.ex (0 : Nat)) (St.of [] [])) :=
  (show LB tab noSp lr L (n+4) h460 c46l0 (S460 (.sla false 7 es) id N i) k =
 (cond (decide ((↑i : Int) < N))
 (lookK (es[(↑i : Int).toNat]?)
 fun e1 =>
 (cond (okRow [DV.int .i64 0, DV.int .i64 0, DV.int .i64 0, DV.int .i64 0, DV.int .i64 0, DV.int .i64 0, DV.int .i64 0] e1)
 (cond ((cellA e1 0).toI == id)
 (k .ret (St.of [(4, (.d (.int .i64 ((↑i : Int)))))] []))
 (k .nrm (St.of [(0, (.d (.sla false 7 es))), (1, (.d (.func 47 [(.rptr [(.int .i64 id)] 0)]))), (7, (.d (.int .i64 N))), (8, (.d (.int .i64 (IntKind.i64.wrap ((↑i : Int) + (1 : Int))))))] [])))
 none))
 (k (.ex 0) (St.of [] []))) from by kernel_rfl).trans (by first | rfl | (simp only [decide_true, decide_false, eq_self, and_true, true_and, and_self, cond_true, cond_false, Nat.le_refl, Int.le_refl, Option.getD_some, Option.getD_none, Int.toNat_natCast, List.take_length, List.drop_zero, Nat.zero_add, List.nil_append, List.all_nil, List.append_nil, Bool.true_and, Bool.and_true, rowsA_sla, rowsA_sl, rowsA_nil, minus_zero, nat_le_cast, nat_nonneg, Option.isSome_some, Option.isSome_none, Bool.false_eq_true, false_and, and_false, if_true, if_false, implies_true, Int.toNat_zero, Bool.not_false, Bool.not_true, bne_self_eq_false]; done) | (simp only [decide_true, decide_false, eq_self, and_true, true_and, and_self, cond_true, cond_false, Nat.le_refl, Int.le_refl, Option.getD_some, Option.getD_none, Int.toNat_natCast, List.take_length, List.drop_zero, Nat.zero_add, List.nil_append, List.all_nil, List.append_nil, Bool.true_and, Bool.and_true, rowsA_sla, rowsA_sl, rowsA_nil, minus_zero, nat_le_cast, nat_nonneg, Option.isSome_some, Option.isSome_none, Bool.false_eq_true, false_and, and_false, if_true, if_false, implies_true, Int.toNat_zero, Bool.not_false, Bool.not_true, bne_self_eq_false]; rfl))
theorem t26 (L n : Nat) (es : List (List DV)) (id : Int) : FK tab noSp lr L (n+8) 26 [.sla false 7 es, .int .i64 id] =
   (bif decide (fI es id < (0 : Int)) then
 need
 (LoopOk (LB tab noSp lr L (n + (8 : Nat)) h260 c26l0)
 (St.of [(0, AV.d (DV.sla false 7 es)), (1, AV.d (DV.int .i64 id)), (5, AV.d (DV.int .i64 0))] [])
 (Ex.ex (0 : Nat), St.of [] []))
 (some (DV.int .i64 (-1 : Int)))
 else
 need
 (LoopOk (LB tab noSp lr L (n + (8 : Nat)) h260 c26l0)
 (St.of [(0, AV.d (DV.sla false 7 es)), (1, AV.d (DV.int .i64 id)), (5, AV.d (DV.int .i64 0))] [])
 (Ex.ret, St.of [(4, AV.d (DV.int .i64 (fI es id)))] []))
 (some (DV.int .i64 (fI es id)))) :=
  (show FK tab noSp lr L (n+8) 26 [.sla false 7 es, .int .i64 id] =
 (cond (decide (fI (rowsA (DV.sla false 7 es)) id < (0 : Int)))
 (need (LoopOk (LB tab noSp lr L (n + (8 : Nat)) h260 c26l0) (St.of [(0, (.d (.sla false 7 es))), (1, (.d (.int .i64 id))), (5, (.d (.int .i64 ((0 : Int)))))] []) ((.ex 0), (St.of [] [])))
 (some (.int .i64 ((-1 : Int)))))
 (need (LoopOk (LB tab noSp lr L (n + (8 : Nat)) h260 c26l0) (St.of [(0, (.d (.sla false 7 es))), (1, (.d (.int .i64 id))), (5, (.d (.int .i64 ((0 : Int)))))] []) (.ret, (St.of [(4, (.d (.int .i64 (fI (rowsA (DV.sla false 7 es)) id))))] [])))
 (some (.int .i64 (fI (rowsA (DV.sla false 7 es)) id))))) from by kernel_rfl).trans (by first | rfl | (simp only [decide_true, decide_false, eq_self, and_true, true_and, and_self, cond_true, cond_false, Nat.le_refl, Int.le_refl, Option.getD_some, Option.getD_none, Int.toNat_natCast, List.take_length, List.drop_zero, Nat.zero_add, List.nil_append, List.all_nil, List.append_nil, Bool.true_and, Bool.and_true, rowsA_sla, rowsA_sl, rowsA_nil, minus_zero, nat_le_cast, nat_nonneg, Option.isSome_some, Option.isSome_none, Bool.false_eq_true, false_and, and_false, if_true, if_false, implies_true, Int.toNat_zero, Bool.not_false, Bool.not_true, bne_self_eq_false]; done) | (simp only [decide_true, decide_false, eq_self, and_true, true_and, and_self, cond_true, cond_false, Nat.le_refl, Int.le_refl, Option.getD_some, Option.getD_none, Int.toNat_natCast, List.take_length, List.drop_zero, Nat.zero_add, List.nil_append, List.all_nil, List.append_nil, Bool.true_and, Bool.and_true, rowsA_sla, rowsA_sl, rowsA_nil, minus_zero, nat_le_cast, nat_nonneg, Option.isSome_some, Option.isSome_none, Bool.false_eq_true, false_and, and_false, if_true, if_false, implies_true, Int.toNat_zero, Bool.not_false, Bool.not_true, bne_self_eq_false]; rfl))
theorem t46 (L n : Nat) (es : List (List DV)) (id : Int) : FK tab noSp lr L (n+8) 46 [.sla false 7 es, .func 47 [.rptr [.int .i64 id] 0]] =
   (bif decide (fI es id < (0 : Int)) then
 need
 (LoopOk (LB tab noSp lr L (n + (8 : Nat)) h460 c46l0)
 (St.of
 [(0, AV.d (DV.sla false 7 es)), (1, AV.d (DV.func (47 : FuncId) [DV.rptr [DV.int .i64 id] (0 : Nat)])),
 ((7 : Nat), AV.d (DV.int .i64 (↑es.length : Int))), (8, AV.d (DV.int .i64 0))]
 [])
 (Ex.ex (0 : Nat), St.of [] []))
 (some (DV.int .i64 (-1 : Int)))
 else
 need
 (LoopOk (LB tab noSp lr L (n + (8 : Nat)) h460 c46l0)
 (St.of
 [(0, AV.d (DV.sla false 7 es)), (1, AV.d (DV.func (47 : FuncId) [DV.rptr [DV.int .i64 id] (0 : Nat)])),
 ((7 : Nat), AV.d (DV.int .i64 (↑es.length : Int))), (8, AV.d (DV.int .i64 0))]
 [])
 (Ex.ret, St.of [(4, AV.d (DV.int .i64 (fI es id)))] []))
 (some (DV.int .i64 (fI es id)))) :=
  (show FK tab noSp lr L (n+8) 46 [.sla false 7 es, .func 47 [.rptr [.int .i64 id] 0]] =
 (cond (decide (fI (rowsA (DV.sla false 7 es)) id < (0 : Int)))
 (need (LoopOk (LB tab noSp lr L (n + (8 : Nat)) h460 c46l0) (St.of [(0, (.d (.sla false 7 es))), (1, (.d (.func 47 [(.rptr [(.int .i64 id)] 0)]))), (7, (.d (.int .i64 ((↑es.length : Int))))), (8, (.d (.int .i64 ((0 : Int)))))] []) ((.ex 0), (St.of [] [])))
 (some (.int .i64 ((-1 : Int)))))
 (need (LoopOk (LB tab noSp lr L (n + (8 : Nat)) h460 c46l0) (St.of [(0, (.d (.sla false 7 es))), (1, (.d (.func 47 [(.rptr [(.int .i64 id)] 0)]))), (7, (.d (.int .i64 ((↑es.length : Int))))), (8, (.d (.int .i64 ((0 : Int)))))] []) (.ret, (St.of [(4, (.d (.int .i64 (fI (rowsA (DV.sla false 7 es)) id))))] [])))
 (some (.int .i64 (fI (rowsA (DV.sla false 7 es)) id))))) from by kernel_rfl).trans (by first | rfl | (simp only [decide_true, decide_false, eq_self, and_true, true_and, and_self, cond_true, cond_false, Nat.le_refl, Int.le_refl, Option.getD_some, Option.getD_none, Int.toNat_natCast, List.take_length, List.drop_zero, Nat.zero_add, List.nil_append, List.all_nil, List.append_nil, Bool.true_and, Bool.and_true, rowsA_sla, rowsA_sl, rowsA_nil, minus_zero, nat_le_cast, nat_nonneg, Option.isSome_some, Option.isSome_none, Bool.false_eq_true, false_and, and_false, if_true, if_false, implies_true, Int.toNat_zero, Bool.not_false, Bool.not_true, bne_self_eq_false]; done) | (simp only [decide_true, decide_false, eq_self, and_true, true_and, and_self, cond_true, cond_false, Nat.le_refl, Int.le_refl, Option.getD_some, Option.getD_none, Int.toNat_natCast, List.take_length, List.drop_zero, Nat.zero_add, List.nil_append, List.all_nil, List.append_nil, Bool.true_and, Bool.and_true, rowsA_sla, rowsA_sl, rowsA_nil, minus_zero, nat_le_cast, nat_nonneg, Option.isSome_some, Option.isSome_none, Bool.false_eq_true, false_and, and_false, if_true, if_false, implies_true, Int.toNat_zero, Bool.not_false, Bool.not_true, bne_self_eq_false]; rfl))
theorem t34 (L n : Nat) (es : List (List DV)) (id : Int) : FK tab spI lr L (n+8) 34 [.sla false 7 es, .int .i64 id] =
   (need (fnfS.D [DV.sla false 7 es, DV.func (47 : FuncId) [DV.rptr [DV.int .i64 id] (0 : Nat)]]) (some (DV.int .i64 (fI es id)))) :=
  (show FK tab spI lr L (n+8) 34 [.sla false 7 es, .int .i64 id] =
 (need (FSpec.D (fnfS) [(.sla false 7 es), (.func 47 [(.rptr [(.int .i64 id)] 0)])])
 (some (.int .i64 (fI (rowsA (DV.sla false 7 es)) id)))) from by kernel_rfl).trans (by first | rfl | (simp only [decide_true, decide_false, eq_self, and_true, true_and, and_self, cond_true, cond_false, Nat.le_refl, Int.le_refl, Option.getD_some, Option.getD_none, Int.toNat_natCast, List.take_length, List.drop_zero, Nat.zero_add, List.nil_append, List.all_nil, List.append_nil, Bool.true_and, Bool.and_true, rowsA_sla, rowsA_sl, rowsA_nil, minus_zero, nat_le_cast, nat_nonneg, Option.isSome_some, Option.isSome_none, Bool.false_eq_true, false_and, and_false, if_true, if_false, implies_true, Int.toNat_zero, Bool.not_false, Bool.not_true, bne_self_eq_false]; done) | (simp only [decide_true, decide_false, eq_self, and_true, true_and, and_self, cond_true, cond_false, Nat.le_refl, Int.le_refl, Option.getD_some, Option.getD_none, Int.toNat_natCast, List.take_length, List.drop_zero, Nat.zero_add, List.nil_append, List.all_nil, List.append_nil, Bool.true_and, Bool.and_true, rowsA_sla, rowsA_sl, rowsA_nil, minus_zero, nat_le_cast, nat_nonneg, Option.isSome_some, Option.isSome_none, Bool.false_eq_true, false_and, and_false, if_true, if_false, implies_true, Int.toNat_zero, Bool.not_false, Bool.not_true, bne_self_eq_false]; rfl))
theorem isK_int {c : DV} (h : DV.isK (.int .i64 0) c = true) : ∃ n, c = .int .i64 n := by
  cases c with
  | int q n =>
    simp only [DV.isK, decide_eq_true_eq] at h
    exact ⟨n, by rw [h]⟩
  | _ => simp [DV.isK] at h
theorem okRow_p {e : List DV} (h : okRow z7 e = true) : ∃ a0 a1 a2 a3 a4 a5 a6 : Int, e = [.int .i64 a0, .int .i64 a1, .int .i64 a2, .int .i64 a3, .int .i64 a4, .int .i64 a5, .int .i64 a6] := by
  simp only [okRow, Bool.and_eq_true] at h
  obtain ⟨hl, hk⟩ := h
  have hl : e.length = 7 := Nat.eq_of_beq_eq_true hl
  match e, hl with
  | [c0, c1, c2, c3, c4, c5, c6], _ =>
    simp only [kindsOk, Bool.and_eq_true] at hk
    obtain ⟨h0, h1, h2, h3, h4, h5, h6, _⟩ := hk
    obtain ⟨_, rfl⟩ := isK_int h0
    obtain ⟨_, rfl⟩ := isK_int h1
    obtain ⟨_, rfl⟩ := isK_int h2
    obtain ⟨_, rfl⟩ := isK_int h3
    obtain ⟨_, rfl⟩ := isK_int h4
    obtain ⟨_, rfl⟩ := isK_int h5
    obtain ⟨_, rfl⟩ := isK_int h6
    exact ⟨_, _, _, _, _, _, _, rfl⟩
theorem ne_self (n : Int) : (n != n) = false := bne_self_eq_false n
theorem ord39 : ordS.ok Try.prog 39 := fun ds r hD hv => by
  obtain ⟨a, b, rfl, ha, hb⟩ := hD
  cases hv
  obtain ⟨a0, a1, a2, a3, a4, a5, a6, rfl⟩ := okRow_p ha
  obtain ⟨b0, b1, b2, b3, b4, b5, b6, rfl⟩ := okRow_p hb
  refine spec_run (lsp := lsp0) tab_ok noSp_ok (16 + 4) (0 + 8) ((t39 16 0 a0 a1 a2 a3 a4 a5 a6 b0 b1 b2 b3 b4 b5 b6).trans ?_)
  simp only [ne_self, cond_false, ordI, frm, cls, cellA]
  show _ = some (DV.int .i64 (cond (decide (a1 < b1)) (-1) (cond (decide (a1 > b1)) 1 (cond (decide (a4 < b4)) (-1) (cond (decide (a4 > b4)) 1 0)))))
  cases decide (a1 < b1) <;> cases decide (a1 > b1) <;> cases decide (a4 < b4) <;> cases decide (a4 > b4) <;> rfl
theorem ah40 : ahS.ok Try.prog 40 := fun ds r hD hv => by
  obtain ⟨a, b, rfl, ha, hb⟩ := hD
  cases hv
  obtain ⟨a0, a1, a2, a3, a4, a5, a6, rfl⟩ := okRow_p ha
  obtain ⟨b0, b1, b2, b3, b4, b5, b6, rfl⟩ := okRow_p hb
  refine spec_run (lsp := lsp0) tab_ok noSp_ok 16 (0 + 8) ((t40 16 0 a0 a1 a2 a3 a4 a5 a6 b0 b1 b2 b3 b4 b5 b6).trans ?_)
  show _ = some (DV.bool (decide (a1 < b1) || (decide (a1 = b1) && decide (a4 ≤ b4))))
  have : (a1 == b1) = decide (a1 = b1) := by
    by_cases h : a1 = b1
    · rw [decide_eq_true h]; exact beq_iff_eq.2 h
    · rw [decide_eq_false h]; exact beq_eq_false_iff_ne.2 h
  rw [this]
  cases decide (a1 < b1) <;> cases decide (a1 = b1) <;> rfl
theorem fI_lt : ∀ (es : List (List DV)) (id : Int), fI es id < es.length ∧ -1 ≤ fI es id
  | [], _ => by simp [fI]
  | e :: l, id => by
    have h := fI_lt l id
    simp only [fI, List.length_cons]
    cases idO e == id with
    | true => simp only [cond_true]; omega
    | false =>
      cases hd : decide (fI l id < 0) with
      | true => simp only [cond_true, cond_false]; omega
      | false => simp only [cond_false]; omega
theorem fI_drop {es : List (List DV)} {id : Int} {i : Nat} (hi : i < es.length) : fI (es.drop i) id = cond (idO es[i] == id) 0 (cond (decide (fI (es.drop (i + 1)) id < 0)) (-1) (fI (es.drop (i + 1)) id + 1)) := by
  rw [List.drop_eq_getElem_cons hi]
  rfl
theorem loopF (f : St → Kont → Option DV) (S : Nat → St) (es : List (List DV)) (id : Int)
    (hs : ∀ i (hi : i < es.length) k, f (S i) k = cond (idO es[i] == id) (k .ret (St.of [(4, .d (.int .i64 (i : Nat)))] [])) (k .nrm (S (i + 1))))
    (he : ∀ k, f (S es.length) k = k (.ex 0) (St.of [] [])) : ∀ r, (LR.br (decide (fI es id < 0)) (.one (.ex 0) (St.of [] [])) (.one .ret (St.of [(4, .d (.int .i64 (fI es id)))] []))).val = some r → LoopOk f (S 0) r := by
  intro r hr
  have key := loop_list (f := f) S es (fun i => ((LR.br (decide (fI (es.drop i) id < 0)) (.one (.ex 0) (St.of [] [])) (.one .ret (St.of [(4, .d (.int .i64 (fI (es.drop i) id + i)))] []))).val).getD (.nrm, St.of [] []))
    (fun i hi => by
      cases hc : (idO es[i] == id) with
      | true =>
        right
        have e1 : fI (es.drop i) id = 0 := by rw [fI_drop hi, hc]; rfl
        rw [e1]
        refine ⟨by simp [LR.val], fun k => ?_⟩
        rw [hs i hi, hc, cond_true]
        simp [LR.val]
      | false =>
        left
        have e1 : fI (es.drop i) id = cond (decide (fI (es.drop (i + 1)) id < 0)) (-1) (fI (es.drop (i + 1)) id + 1) := by rw [fI_drop hi, hc]; rfl
        refine ⟨fun k => by rw [hs i hi, hc]; rfl, ?_⟩
        rw [e1]
        by_cases hd : fI (es.drop (i + 1)) id < 0
        · rw [decide_eq_true hd]; rfl
        · rw [decide_eq_false hd, cond_false, decide_eq_false (show ¬ fI (es.drop (i + 1)) id + 1 < 0 by omega)]
          simp only [LR.val, cond_false, Option.getD_some]
          rw [show fI (es.drop (i + 1)) id + 1 + (i : Int) = fI (es.drop (i + 1)) id + ((i + 1 : Nat) : Int) by omega])
    (by
      rw [List.drop_length]
      refine ⟨by simp [LR.val, fI], fun k => ?_⟩
      rw [he]
      rfl)
  simp only [List.drop_zero, Int.natCast_zero, Int.add_zero, hr, Option.getD_some] at key
  exact key
theorem fnd26 : fndS.ok Try.prog 26 := fun ds r hD hv => by
  obtain ⟨x, id, rfl, hx, hz, hl⟩ := hD
  cases hv
  refine EntX.gen1 hx (spec_run (lsp := lr) tab_ok noSp_ok 20 (0 + 8) ((t26 20 0 (rowsA x) id).trans ?_))
  generalize rowsA x = es at *
  have h := loopF (LB tab noSp lr 20 (0 + 8) h260 c26l0) (fun i => S260 (.sla false 7 es) id (i : Nat)) es id
    (fun i hi k => by rw [s260, lt_dec hi, cond_true, look_nat hi, hz _ (List.getElem_mem hi), cond_true, wrap_succ (by omega)]; rfl)
    (fun k => by rw [s260, lt_dec_self]; rfl)
  by_cases hd : fI es id < 0
  · rw [decide_eq_true hd] at h ⊢
    have : fI es id = -1 := by have := (fI_lt es id).2; omega
    rw [this]
    exact need_pos (h _ rfl)
  · rw [decide_eq_false hd] at h ⊢
    exact need_pos (h _ rfl)
theorem fnd46 : fnfS.ok Try.prog 46 := fun ds r hD hv => by
  obtain ⟨x, id, rfl, hx, hz, hl⟩ := hD
  cases hv
  refine EntX.gen1 hx (spec_run (lsp := lr) tab_ok noSp_ok 20 (0 + 8) ((t46 20 0 (rowsA x) id).trans ?_))
  generalize rowsA x = es at *
  have h := loopF (LB tab noSp lr 20 (0 + 8) h460 c46l0) (fun i => S460 (.sla false 7 es) id es.length (i : Nat)) es id
    (fun i hi k => by rw [s460, lt_dec hi, cond_true, look_nat hi, hz _ (List.getElem_mem hi), cond_true, wrap_succ (by omega)]; rfl)
    (fun k => by rw [s460, lt_dec_self]; rfl)
  by_cases hd : fI es id < 0
  · rw [decide_eq_true hd] at h ⊢
    have : fI es id = -1 := by have := (fI_lt es id).2; omega
    rw [this]
    exact need_pos (h _ rfl)
  · rw [decide_eq_false hd] at h ⊢
    exact need_pos (h _ rfl)
theorem spI_ok : ∀ f s, spI f = some s → s.ok Try.prog f := spAdd_ok fnd46 noSp_ok
theorem fnd34 : fndS.ok Try.prog 34 := fun ds r hD hv => by
  obtain ⟨x, id, rfl, hx, hz, hl⟩ := hD
  cases hv
  refine EntX.gen1 hx (spec_run (lsp := lr) tab_ok spI_ok 20 (0 + 8) ((t34 20 0 (rowsA x) id).trans ?_))
  exact need_pos ⟨_, _, rfl, Sl.sla _ _ _, hz, hl⟩
end Go.Proofs.Ytngghbloijkfoaa
