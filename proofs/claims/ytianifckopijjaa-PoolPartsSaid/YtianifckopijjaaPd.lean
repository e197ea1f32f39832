/- What is known of the pool's functions, by their runs: rows of numbers put and compared. No condition. -/
import Derived.Test.YtianifckopijjaaPh
import Derived.Test.YtianifckopijjaaVmS
namespace Go.Proofs.Ytianifckopijjaa
open Go Go.Proofs Go.RowKit Vm
set_option linter.unusedVariables false
set_option linter.unusedSimpArgs false
def I1 (n : Nat) (x : DV) : Prop := Sl 1 x ∧ (∀ e ∈ rowsA x, okRow z1 e = true) ∧ (rowsA x).length ≤ n
def setL (es : List (List DV)) (i v : Int) : List (List DV) := cond (decide (0 ≤ i ∧ i < es.length)) (es.set i.toNat [.int .i64 v]) es
def setA : FSpec where
  D ds := ∃ x i v, ds = [x, .int .i64 i, .int .i64 v] ∧ I1 1000 x
  val ds := match ds with
    | [x, .int _ i, .int _ v] => some (.sla false 1 (setL (rowsA x) i v))
    | _ => none
def int1 (e : List DV) : Int := (cellA e 0).toI
def same1 (a b : List (List DV)) : Bool := decide (a.map int1 = b.map int1)
def samA : FSpec where
  D ds := ∃ x y, ds = [x, y] ∧ I1 1000 x ∧ I1 1000 y
  val ds := match ds with | [x, y] => some (.bool (same1 (rowsA x) (rowsA y))) | _ => none
def S240 (x y : DV) (i : Int) : St := St.of [(0, .d x), (1, .d y), (5, .d (.int .i64 i))] []
def l240 : LSpec := fun st => match st.env 0, st.env 1 with
  | .d x, .d y => .br (same1 (rowsA x) (rowsA y)) (.one (.ex 0) (St.of [] [])) (.one .ret (St.of [(4, .d (.bool false))] []))
  | _, _ => .no
def cut (e : List DV) : Int := (cellA e 1).toI
def oAt (e a b : List DV) : Bool := wOk (cel a) (cel b) (cut e)
def wAt (e a b : List DV) : Int := cond (wOk (cel a) (cel b) (cut e)) (wI (cel a) (cel b) (cut e)) 0
def row1 (w : Int) : List DV := [.int .i64 w]
def osA (es p h : List (List DV)) : List Bool := List.zipWith (fun e (ab : List DV × List DV) => oAt e ab.1 ab.2) es (p.zip h)
def wsA (es p h : List (List DV)) : List (List DV) := List.zipWith (fun e (ab : List DV × List DV) => row1 (wAt e ab.1 ab.2)) es (p.zip h)
def allB (l : List Bool) : Bool := l.all id
def vOk (es p h : List (List DV)) : Bool := decide (p.length = es.length) && (decide (h.length = es.length) && (allB (osA es p h) && fitsB (sumZ (wsA es p h))))
def E220 (v : AV) (o : List (Nat × Option Ob)) : St := St.of [(8, v)] ((43, none) :: o)
def R220 : St := St.of [(6, .d (.int .i64 0)), (7, .d (.bool false))] [(54, none)]
def X220 (es p h : List (List DV)) : LR :=
  .br (allB (osA es p h)) (.br (decide (es.length = 0)) (.one (.ex 0) (E220 (.d .nilsl) [(51, none), (50051, none)]))
    (.br (decide (es.length % 2 = 1)) (.one (.ex 0) (E220 (.aref 51 1 0 (wsA es p h).length) [(51, some (.dat 2 1 (wsA es p h))), (50051, none)])) (.one (.ex 0) (E220 (.aref 50051 1 0 (wsA es p h).length) [(51, none), (50051, some (.dat 2 1 (wsA es p h)))]))))
    (.one .ret R220)
def l220 : LSpec := fun st => match st.env 25, st.env 1, st.env 2 with
  | .d x, .d p, .d h => X220 (rowsA x) (rowsA p) (rowsA h)
  | _, _, _ => .no
def X230 (es p h : List (List DV)) : LR := .br (allB (osA es p h) && fitsB (sumZ (wsA es p h))) (.one (.ex 0) (St.of [(8, .d (.int .i64 (sumZ (wsA es p h))))] [(52, none)])) (.one .ret (St.of [(6, .d (.int .i64 0)), (7, .d (.bool false))] [(52, none)]))
def l230 : LSpec := fun st => match st.env 0, st.env 1, st.env 2 with
  | .d x, .d p, .d h => X230 (rowsA x) (rowsA p) (rowsA h)
  | _, _, _ => .no
def lp5 (k : Nat) : Option LSpec := if k = 240 then some l240 else if k = 220 then some l220 else if k = 230 then some l230 else none
noncomputable def spV : FuncId → Option FSpec := spAdd 13 sumS (spAdd 17 worthV (spAdd 21 worthV (spAdd 20 addF noSp)))
def S220 (es p h : List (List DV)) (v : AV) (N i : Int) (o : List (Nat × Option Ob)) : St := St.of [(1, .d (.sla false 1 p)), (2, .d (.sla false 1 h)), (8, v), (25, .d (.sla false 2 es)), (26, .d (.int .i64 N)), (27, .d (.int .i64 i))] ((43, none) :: o)
def S230 (es p h : List (List DV)) (n i : Int) : St := St.of [(0, .d (.sla false 2 es)), (1, .d (.sla false 1 p)), (2, .d (.sla false 1 h)), (8, .d (.int .i64 n)), (9, .d (.int .i64 i))] [(52, none)]
theorem s240 (L n : Nat) (es es2 : List (List DV)) (i : Nat) (k : Kont) : LB tab noSp lp5 L (n+4) h240 c24l0 (S240 (.sla false 1 es) (.sla false 1 es2) i) k =
   (bif decide ((↑i : Int) < (↑es.length : Int)) then
 lookK es[i]? fun (e1 : List DV) =>
 bif okRow [DV.int .i64 0] e1 then
 lookK es2[i]? fun (e4 : List DV) =>
 bif okRow [DV.int .i64 0] e4 then
 bif (cellA e1 0).toI != (cellA e4 0).toI then k Ex.ret (St.of [(4, AV.d (DV.bool false))] [])
 else
 k Ex.nrm
 (St.of
 [(0, AV.d (DV.sla false 1 es)), (1, AV.d (DV.sla false 1 es2)),
 ((5 : Nat), AV.d (DV.int .i64 (IntKind.i64.wrap ((↑i : Int) + (1 : Int)))))]
 [])
 else none
 else none
 else k (Ex.ex (0 : Nat)) (St.of [] [])) :=
  (show LB tab noSp lp5 L (n+4) h240 c24l0 (S240 (.sla false 1 es) (.sla false 1 es2) i) k =
 (cond (decide ((↑i : Int) < (↑es.length : Int)))
 (lookK (es[(↑i : Int).toNat]?)
 fun e1 =>
 (cond (okRow [DV.int .i64 0] e1)
 (lookK (es2[(↑i : Int).toNat]?)
 fun e4 =>
 (cond (okRow [DV.int .i64 0] e4)
 (cond ((cellA e1 0).toI != (cellA e4 0).toI)
 (k .ret (St.of [(4, (.d (.bool false)))] []))
 (k .nrm (St.of [(0, (.d (.sla false 1 es))), (1, (.d (.sla false 1 es2))), (5, (.d (.int .i64 (IntKind.i64.wrap ((↑i : Int) + (1 : Int))))))] [])))
 none))
 none))
 (k (.ex 0) (St.of [] []))) from by kernel_rfl).trans (by first | rfl | (simp only [decide_true, decide_false, eq_self, and_true, true_and, and_self, cond_true, cond_false, Nat.le_refl, Int.le_refl, Option.getD_some, Option.getD_none, Int.toNat_natCast, List.take_length, List.drop_zero, Nat.zero_add, List.nil_append, List.all_nil, List.append_nil, Bool.true_and, Bool.and_true, rowsA_sla, rowsA_sl, rowsA_nil, minus_zero, nat_le_cast, nat_nonneg, Option.isSome_some, Option.isSome_none, Bool.false_eq_true, false_and, and_false, if_true, if_false, implies_true, Int.toNat_zero, Bool.not_false, Bool.not_true, bne_self_eq_false]; done) | (simp only [decide_true, decide_false, eq_self, and_true, true_and, and_self, cond_true, cond_false, Nat.le_refl, Int.le_refl, Option.getD_some, Option.getD_none, Int.toNat_natCast, List.take_length, List.drop_zero, Nat.zero_add, List.nil_append, List.all_nil, List.append_nil, Bool.true_and, Bool.and_true, rowsA_sla, rowsA_sl, rowsA_nil, minus_zero, nat_le_cast, nat_nonneg, Option.isSome_some, Option.isSome_none, Bool.false_eq_true, false_and, and_false, if_true, if_false, implies_true, Int.toNat_zero, Bool.not_false, Bool.not_true, bne_self_eq_false]; rfl))
theorem t24 (L n : Nat) (es es2 : List (List DV)) : FK tab noSp lp5 L (n+8) 24 [.sla false 1 es, .sla false 1 es2] =
   (bif (↑es.length : Int) != (↑es2.length : Int) then some (DV.bool false)
 else
 bif same1 es es2 then
 need
 (LoopOk (LB tab noSp lp5 L (n + (8 : Nat)) h240 c24l0)
 (St.of
 [(0, AV.d (DV.sla false 1 es)), (1, AV.d (DV.sla false 1 es2)), (5, AV.d (DV.int .i64 0))]
 [])
 (Ex.ex (0 : Nat), St.of [] []))
 (some (DV.bool true))
 else
 need
 (LoopOk (LB tab noSp lp5 L (n + (8 : Nat)) h240 c24l0)
 (St.of
 [(0, AV.d (DV.sla false 1 es)), (1, AV.d (DV.sla false 1 es2)), (5, AV.d (DV.int .i64 0))]
 [])
 (Ex.ret, St.of [(4, AV.d (DV.bool false))] []))
 (some (DV.bool false))) :=
  (show FK tab noSp lp5 L (n+8) 24 [.sla false 1 es, .sla false 1 es2] =
 (cond ((↑es.length : Int) != (↑es2.length : Int))
 (some (.bool false))
 (cond (same1 (rowsA (DV.sla false 1 es)) (rowsA (DV.sla false 1 es2)))
 (need (LoopOk (LB tab noSp lp5 L (n + (8 : Nat)) h240 c24l0) (St.of [(0, (.d (.sla false 1 es))), (1, (.d (.sla false 1 es2))), (5, (.d (.int .i64 ((0 : Int)))))] []) ((.ex 0), (St.of [] [])))
 (some (.bool true)))
 (need (LoopOk (LB tab noSp lp5 L (n + (8 : Nat)) h240 c24l0) (St.of [(0, (.d (.sla false 1 es))), (1, (.d (.sla false 1 es2))), (5, (.d (.int .i64 ((0 : Int)))))] []) (.ret, (St.of [(4, (.d (.bool false)))] [])))
 (some (.bool false))))) from by kernel_rfl).trans (by first | rfl | (simp only [decide_true, decide_false, eq_self, and_true, true_and, and_self, cond_true, cond_false, Nat.le_refl, Int.le_refl, Option.getD_some, Option.getD_none, Int.toNat_natCast, List.take_length, List.drop_zero, Nat.zero_add, List.nil_append, List.all_nil, List.append_nil, Bool.true_and, Bool.and_true, rowsA_sla, rowsA_sl, rowsA_nil, minus_zero, nat_le_cast, nat_nonneg, Option.isSome_some, Option.isSome_none, Bool.false_eq_true, false_and, and_false, if_true, if_false, implies_true, Int.toNat_zero, Bool.not_false, Bool.not_true, bne_self_eq_false]; done) | (simp only [decide_true, decide_false, eq_self, and_true, true_and, and_self, cond_true, cond_false, Nat.le_refl, Int.le_refl, Option.getD_some, Option.getD_none, Int.toNat_natCast, List.take_length, List.drop_zero, Nat.zero_add, List.nil_append, List.all_nil, List.append_nil, Bool.true_and, Bool.and_true, rowsA_sla, rowsA_sl, rowsA_nil, minus_zero, nat_le_cast, nat_nonneg, Option.isSome_some, Option.isSome_none, Bool.false_eq_true, false_and, and_false, if_true, if_false, implies_true, Int.toNat_zero, Bool.not_false, Bool.not_true, bne_self_eq_false]; rfl))
theorem t25 (L n : Nat) (es : List (List DV)) (i v : Int) : FK tab noSp lp5 L (n+8) 25 [.sl .ro 1 es, .int .i64 i, .int .i64 v] =
   (bif decide (es.length = (0 : Nat)) then
 bif bif decide (i ≥ (0 : Int)) then decide (i < (0 : Int)) else false then
 bif decide ((0 : Int) ≤ i) then bif decide (i < (0 : Int)) then none else none else none
 else some (DV.sl (SK.own (2 : Nat)) (1 : Nat) [])
 else
 bif es.all fun (e : List DV) => e.length == (1 : Nat) && e.all DV.one then
 bif decide (es.length * (8 : Nat) ≤ room ∧ es.length ≤ room) then
 bif bif decide (i ≥ (0 : Int)) then decide (i < (↑es.length : Int)) else false then
 bif decide ((0 : Int) ≤ i) then
 bif decide (i < (↑es.length : Int)) then
 lookK es[i.toNat]? fun (e7 : List DV) =>
 bif decide ((1 : Nat) ≤ e7.length) then
 bif decide (es.length = (es.set i.toNat (DV.int .i64 v :: List.drop (1 : Nat) e7)).length) then
 some (DV.sl (SK.own (2 : Nat)) (1 : Nat) (es.set i.toNat (DV.int .i64 v :: List.drop (1 : Nat) e7)))
 else
 bif decide (es.length ≤ (es.set i.toNat (DV.int .i64 v :: List.drop (1 : Nat) e7)).length) then
 some (DV.sl SK.ro 1 (List.take es.length (es.set i.toNat (DV.int .i64 v :: List.drop (1 : Nat) e7))))
 else none
 else none
 else none
 else none
 else some (DV.sl (SK.own (2 : Nat)) (1 : Nat) es)
 else none
 else none) :=
  (show FK tab noSp lp5 L (n+8) 25 [.sl .ro 1 es, .int .i64 i, .int .i64 v] =
 (cond (decide (es.length = (0 : Nat)))
 (cond (bif decide (i ≥ (0 : Int)) then decide (i < (0 : Int)) else false)
 (cond (decide ((0 : Int) ≤ i))
 (cond (decide (i < (0 : Int)))
 none
 none)
 none)
 (some (.sl (SK.own (2 : Nat)) 1 [])))
 (cond (es.all fun (e : List DV) => e.length == (1 : Nat) && e.all DV.one)
 (cond (decide ((2 : Nat) = (2 : Nat) ∧ (1 : Nat) = (1 : Nat) ∧ (1 : Nat) = (1 : Nat) ∧ (0 : Nat) = (0 : Nat) ∧ (0 : Nat) = (0 : Nat) ∧ es.length * (8 : Nat) ≤ room ∧ es.length ≤ room))
 (cond (decide (es.length = es.length))
 (cond (bif decide (i ≥ (0 : Int)) then decide (i < (↑es.length : Int)) else false)
 (cond (decide ((0 : Int) ≤ i))
 (cond (decide (i < (↑es.length : Int)))
 (lookK (es[(0 : Nat) + i.toNat]?)
 fun e7 =>
 (cond (decide ((1 : Nat) ≤ e7.length))
 (cond (decide (es.length = (es.set ((0 : Nat) + i.toNat) (DV.int .i64 v :: List.drop (1 : Nat) e7)).length))
 (some (.sl (SK.own (2 : Nat)) 1 (es.set ((0 : Nat) + i.toNat) (DV.int .i64 v :: List.drop (1 : Nat) e7))))
 (cond (decide ((0 : Nat) + es.length ≤ (es.set ((0 : Nat) + i.toNat) (DV.int .i64 v :: List.drop (1 : Nat) e7)).length))
 (some (.sl (SK.ro) 1 (List.take es.length (es.set ((0 : Nat) + i.toNat) (DV.int .i64 v :: List.drop (1 : Nat) e7)))))
 none))
 none))
 none)
 none)
 (cond (decide (es.length = es.length))
 (some (.sl (SK.own (2 : Nat)) 1 es))
 (cond (decide ((0 : Nat) + es.length ≤ es.length))
 (some (.sl (SK.ro) 1 (List.take es.length es)))
 none)))
 (cond (decide ((0 : Nat) + es.length ≤ es.length))
 (cond (bif decide (i ≥ (0 : Int)) then decide (i < (↑(List.take es.length es).length : Int)) else false)
 (cond (decide ((0 : Int) ≤ i))
 (lookK ((List.take es.length es)[i.toNat]?)
 fun e7 =>
 (cond (okRow [DV.int .i64 0] e7)
 none
 none))
 none)
 (some (.sl (SK.ro) 1 (List.take es.length es))))
 none))
 none)
 none)) from by kernel_rfl).trans (by first | rfl | (simp only [decide_true, decide_false, eq_self, and_true, true_and, and_self, cond_true, cond_false, Nat.le_refl, Int.le_refl, Option.getD_some, Option.getD_none, Int.toNat_natCast, List.take_length, List.drop_zero, Nat.zero_add, List.nil_append, List.all_nil, List.append_nil, Bool.true_and, Bool.and_true, rowsA_sla, rowsA_sl, rowsA_nil, minus_zero, nat_le_cast, nat_nonneg, Option.isSome_some, Option.isSome_none, Bool.false_eq_true, false_and, and_false, if_true, if_false, implies_true, Int.toNat_zero, Bool.not_false, Bool.not_true, bne_self_eq_false]; done) | (simp only [decide_true, decide_false, eq_self, and_true, true_and, and_self, cond_true, cond_false, Nat.le_refl, Int.le_refl, Option.getD_some, Option.getD_none, Int.toNat_natCast, List.take_length, List.drop_zero, Nat.zero_add, List.nil_append, List.all_nil, List.append_nil, Bool.true_and, Bool.and_true, rowsA_sla, rowsA_sl, rowsA_nil, minus_zero, nat_le_cast, nat_nonneg, Option.isSome_some, Option.isSome_none, Bool.false_eq_true, false_and, and_false, if_true, if_false, implies_true, Int.toNat_zero, Bool.not_false, Bool.not_true, bne_self_eq_false]; rfl))
theorem t25n (L n : Nat) (i v : Int) : FK tab noSp lp5 L (n+8) 25 [.nilsl, .int .i64 i, .int .i64 v] =
   (bif bif decide (i ≥ (0 : Int)) then decide (i < (0 : Int)) else false then none else some DV.nilsl) :=
  (show FK tab noSp lp5 L (n+8) 25 [.nilsl, .int .i64 i, .int .i64 v] =
 (cond (bif decide (i ≥ (0 : Int)) then decide (i < (0 : Int)) else false)
 none
 (some .nilsl)) from by kernel_rfl).trans (by first | rfl | (simp only [decide_true, decide_false, eq_self, and_true, true_and, and_self, cond_true, cond_false, Nat.le_refl, Int.le_refl, Option.getD_some, Option.getD_none, Int.toNat_natCast, List.take_length, List.drop_zero, Nat.zero_add, List.nil_append, List.all_nil, List.append_nil, Bool.true_and, Bool.and_true, rowsA_sla, rowsA_sl, rowsA_nil, minus_zero, nat_le_cast, nat_nonneg, Option.isSome_some, Option.isSome_none, Bool.false_eq_true, false_and, and_false, if_true, if_false, implies_true, Int.toNat_zero, Bool.not_false, Bool.not_true, bne_self_eq_false]; done) | (simp only [decide_true, decide_false, eq_self, and_true, true_and, and_self, cond_true, cond_false, Nat.le_refl, Int.le_refl, Option.getD_some, Option.getD_none, Int.toNat_natCast, List.take_length, List.drop_zero, Nat.zero_add, List.nil_append, List.all_nil, List.append_nil, Bool.true_and, Bool.and_true, rowsA_sla, rowsA_sl, rowsA_nil, minus_zero, nat_le_cast, nat_nonneg, Option.isSome_some, Option.isSome_none, Bool.false_eq_true, false_and, and_false, if_true, if_false, implies_true, Int.toNat_zero, Bool.not_false, Bool.not_true, bne_self_eq_false]; rfl))
theorem t26 (L n : Nat) (es : List (List DV)) (i v : Int) : FK tab noSp lp5 L (n+8) 26 [.sla false 1 es, .int .i64 i, .int .i64 v] =
   (bif decide (es.length = (0 : Nat)) then
 bif bif decide (i ≥ (0 : Int)) then decide (i < (0 : Int)) else false then
 bif decide ((0 : Int) ≤ i) then bif decide (i < (0 : Int)) then none else none else none
 else some (DV.sl (SK.own (2 : Nat)) (1 : Nat) [])
 else
 bif es.all fun (e : List DV) => e.length == (1 : Nat) && e.all DV.one then
 bif decide (es.length * (8 : Nat) ≤ room ∧ es.length ≤ room) then
 bif bif decide (i ≥ (0 : Int)) then decide (i < (↑es.length : Int)) else false then
 bif decide ((0 : Int) ≤ i) then
 bif decide (i < (↑es.length : Int)) then
 lookK es[i.toNat]? fun (e6 : List DV) =>
 bif decide ((1 : Nat) ≤ e6.length) then
 bif decide (es.length = (es.set i.toNat (DV.int .i64 v :: List.drop (1 : Nat) e6)).length) then
 some (DV.sl (SK.own (2 : Nat)) (1 : Nat) (es.set i.toNat (DV.int .i64 v :: List.drop (1 : Nat) e6)))
 else
 bif decide (es.length ≤ (es.set i.toNat (DV.int .i64 v :: List.drop (1 : Nat) e6)).length) then
 some (DV.sl SK.ro 1 (List.take es.length (es.set i.toNat (DV.int .i64 v :: List.drop (1 : Nat) e6))))
 else none
 else none
 else none
 else none
 else some (DV.sl (SK.own (2 : Nat)) (1 : Nat) es)
 else none
 else none) :=
  (show FK tab noSp lp5 L (n+8) 26 [.sla false 1 es, .int .i64 i, .int .i64 v] =
 (cond (decide (es.length = (0 : Nat)))
 (cond (bif decide (i ≥ (0 : Int)) then decide (i < (0 : Int)) else false)
 (cond (decide ((0 : Int) ≤ i))
 (cond (decide (i < (0 : Int)))
 none
 none)
 none)
 (some (.sl (SK.own (2 : Nat)) 1 [])))
 (cond (es.all fun (e : List DV) => e.length == (1 : Nat) && e.all DV.one)
 (cond (decide ((2 : Nat) = (2 : Nat) ∧ (1 : Nat) = (1 : Nat) ∧ (1 : Nat) = (1 : Nat) ∧ (0 : Nat) = (0 : Nat) ∧ (0 : Nat) = (0 : Nat) ∧ es.length * (8 : Nat) ≤ room ∧ es.length ≤ room))
 (cond (bif decide (i ≥ (0 : Int)) then decide (i < (↑es.length : Int)) else false)
 (cond (decide ((0 : Int) ≤ i))
 (cond (decide (i < (↑es.length : Int)))
 (lookK (es[(0 : Nat) + i.toNat]?)
 fun e6 =>
 (cond (decide ((1 : Nat) ≤ e6.length))
 (cond (decide (es.length = (es.set ((0 : Nat) + i.toNat) (DV.int .i64 v :: List.drop (1 : Nat) e6)).length))
 (some (.sl (SK.own (2 : Nat)) 1 (es.set ((0 : Nat) + i.toNat) (DV.int .i64 v :: List.drop (1 : Nat) e6))))
 (cond (decide ((0 : Nat) + es.length ≤ (es.set ((0 : Nat) + i.toNat) (DV.int .i64 v :: List.drop (1 : Nat) e6)).length))
 (some (.sl (SK.ro) 1 (List.take es.length (es.set ((0 : Nat) + i.toNat) (DV.int .i64 v :: List.drop (1 : Nat) e6)))))
 none))
 none))
 none)
 none)
 (cond (decide (es.length = es.length))
 (some (.sl (SK.own (2 : Nat)) 1 es))
 (cond (decide ((0 : Nat) + es.length ≤ es.length))
 (some (.sl (SK.ro) 1 (List.take es.length es)))
 none)))
 none)
 none)) from by kernel_rfl).trans (by first | rfl | (simp only [decide_true, decide_false, eq_self, and_true, true_and, and_self, cond_true, cond_false, Nat.le_refl, Int.le_refl, Option.getD_some, Option.getD_none, Int.toNat_natCast, List.take_length, List.drop_zero, Nat.zero_add, List.nil_append, List.all_nil, List.append_nil, Bool.true_and, Bool.and_true, rowsA_sla, rowsA_sl, rowsA_nil, minus_zero, nat_le_cast, nat_nonneg, Option.isSome_some, Option.isSome_none, Bool.false_eq_true, false_and, and_false, if_true, if_false, implies_true, Int.toNat_zero, Bool.not_false, Bool.not_true, bne_self_eq_false]; done) | (simp only [decide_true, decide_false, eq_self, and_true, true_and, and_self, cond_true, cond_false, Nat.le_refl, Int.le_refl, Option.getD_some, Option.getD_none, Int.toNat_natCast, List.take_length, List.drop_zero, Nat.zero_add, List.nil_append, List.all_nil, List.append_nil, Bool.true_and, Bool.and_true, rowsA_sla, rowsA_sl, rowsA_nil, minus_zero, nat_le_cast, nat_nonneg, Option.isSome_some, Option.isSome_none, Bool.false_eq_true, false_and, and_false, if_true, if_false, implies_true, Int.toNat_zero, Bool.not_false, Bool.not_true, bne_self_eq_false]; rfl))
theorem t22 (L n : Nat) (es p h : List (List DV)) : FK tab spV lp5 L (n+8) 22 [.sla false 2 es, .sla false 1 p, .sla false 1 h] =
   (bif bif (↑p.length : Int) != (↑es.length : Int) then true else (↑h.length : Int) != (↑es.length : Int) then
 some (DV.tuple [DV.int .i64 0, DV.bool false])
 else
 bif allB (osA es p h) then
 bif decide (es.length = (0 : Nat)) then
 need
 (LoopOk (LB tab spV lp5 L (n + (8 : Nat)) h220 c22l0)
 (St.of
 [(1, AV.d (DV.sla false 1 p)), (2, AV.d (DV.sla false 1 h)), (8, AV.d DV.nilsl),
 ((25 : Nat), AV.d (DV.sla false 2 es)), (26, AV.d (DV.int .i64 (↑es.length : Int))),
 ((27 : Nat), AV.d (DV.int .i64 0))]
 [(43, none), (51, none), (50051, none)])
 (Ex.ex (0 : Nat), St.of [(8, AV.d DV.nilsl)] [(43, none), (51, none), (50051, none)]))
 (need (sumS.D [DV.nilsl])
 (some
 (DV.tuple
 [DV.int .i64 (bif fitsB (sumZ (rows DV.nilsl)) then sumZ (rows DV.nilsl) else (0 : Int)), DV.bool (fitsB (sumZ (rows DV.nilsl)))])))
 else
 bif decide (es.length % (2 : Nat) = (1 : Nat)) then
 need
 (LoopOk (LB tab spV lp5 L (n + (8 : Nat)) h220 c22l0)
 (St.of
 [(1, AV.d (DV.sla false 1 p)), (2, AV.d (DV.sla false 1 h)), (8, AV.d DV.nilsl),
 ((25 : Nat), AV.d (DV.sla false 2 es)), (26, AV.d (DV.int .i64 (↑es.length : Int))),
 ((27 : Nat), AV.d (DV.int .i64 0))]
 [(43, none), (51, none), (50051, none)])
 (Ex.ex (0 : Nat),
 St.of [(8, AV.aref 51 1 0 (wsA es p h).length)]
 [(43, none), (51, some (Ob.dat 2 1 (wsA es p h))), (50051, none)]))
 (need (sumS.D [DV.sl SK.ro 1 (wsA es p h)])
 (some
 (DV.tuple
 [DV.int .i64
 (bif fitsB (sumZ (rows (DV.sl SK.ro 1 (wsA es p h)))) then sumZ (rows (DV.sl SK.ro 1 (wsA es p h))) else (0 : Int)),
 DV.bool (fitsB (sumZ (rows (DV.sl SK.ro 1 (wsA es p h)))))])))
 else
 need
 (LoopOk (LB tab spV lp5 L (n + (8 : Nat)) h220 c22l0)
 (St.of
 [(1, AV.d (DV.sla false 1 p)), (2, AV.d (DV.sla false 1 h)), (8, AV.d DV.nilsl),
 ((25 : Nat), AV.d (DV.sla false 2 es)), (26, AV.d (DV.int .i64 (↑es.length : Int))),
 ((27 : Nat), AV.d (DV.int .i64 0))]
 [(43, none), (51, none), (50051, none)])
 (Ex.ex (0 : Nat),
 St.of [(8, AV.aref 50051 1 0 (wsA es p h).length)]
 [(43, none), (51, none), (50051, some (Ob.dat 2 1 (wsA es p h)))]))
 (need (sumS.D [DV.sl SK.ro 1 (wsA es p h)])
 (some
 (DV.tuple
 [DV.int .i64
 (bif fitsB (sumZ (rows (DV.sl SK.ro 1 (wsA es p h)))) then sumZ (rows (DV.sl SK.ro 1 (wsA es p h))) else (0 : Int)),
 DV.bool (fitsB (sumZ (rows (DV.sl SK.ro 1 (wsA es p h)))))])))
 else
 need
 (LoopOk (LB tab spV lp5 L (n + (8 : Nat)) h220 c22l0)
 (St.of
 [(1, AV.d (DV.sla false 1 p)), (2, AV.d (DV.sla false 1 h)), (8, AV.d DV.nilsl),
 ((25 : Nat), AV.d (DV.sla false 2 es)), (26, AV.d (DV.int .i64 (↑es.length : Int))),
 ((27 : Nat), AV.d (DV.int .i64 0))]
 [(43, none), (51, none), (50051, none)])
 (Ex.ret, St.of [(6, AV.d (DV.int .i64 0)), (7, AV.d (DV.bool false))] [(54, none)]))
 (some (DV.tuple [DV.int .i64 0, DV.bool false]))) :=
  (show FK tab spV lp5 L (n+8) 22 [.sla false 2 es, .sla false 1 p, .sla false 1 h] =
 (cond (bif (↑p.length : Int) != (↑es.length : Int) then true else (↑h.length : Int) != (↑es.length : Int))
 (some (.tuple [(.int .i64 ((0 : Int))), (.bool false)]))
 (cond (allB (osA (rowsA (DV.sla false 2 es)) (rowsA (DV.sla false 1 p)) (rowsA (DV.sla false 1 h))))
 (cond (decide ((rowsA (DV.sla false 2 es)).length = (0 : Nat)))
 (need (LoopOk (LB tab spV lp5 L (n + (8 : Nat)) h220 c22l0) (St.of [(1, (.d (.sla false 1 p))), (2, (.d (.sla false 1 h))), (8, (.d .nilsl)), (25, (.d (.sla false 2 es))), (26, (.d (.int .i64 ((↑es.length : Int))))), (27, (.d (.int .i64 ((0 : Int)))))] [(43, .none), (51, .none), (50051, .none)]) ((.ex 0), (St.of [(8, (.d .nilsl))] [(43, .none), (51, .none), (50051, .none)])))
 (need (FSpec.D (sumS) [.nilsl])
 (some (.tuple [(.int .i64 (bif fitsB (sumZ (rows DV.nilsl)) then sumZ (rows DV.nilsl) else (0 : Int))), (.bool (fitsB (sumZ (rows DV.nilsl))))]))))
 (cond (decide ((rowsA (DV.sla false 2 es)).length % (2 : Nat) = (1 : Nat)))
 (need (LoopOk (LB tab spV lp5 L (n + (8 : Nat)) h220 c22l0) (St.of [(1, (.d (.sla false 1 p))), (2, (.d (.sla false 1 h))), (8, (.d .nilsl)), (25, (.d (.sla false 2 es))), (26, (.d (.int .i64 ((↑es.length : Int))))), (27, (.d (.int .i64 ((0 : Int)))))] [(43, .none), (51, .none), (50051, .none)]) ((.ex 0), (St.of [(8, (.aref 51 1 0 ((wsA (rowsA (DV.sla false 2 es)) (rowsA (DV.sla false 1 p)) (rowsA (DV.sla false 1 h))).length)))] [(43, .none), (51, (.some (.dat 2 1 (wsA (rowsA (DV.sla false 2 es)) (rowsA (DV.sla false 1 p)) (rowsA (DV.sla false 1 h)))))), (50051, .none)])))
 (cond (decide ((0 : Nat) + (wsA (rowsA (DV.sla false 2 es)) (rowsA (DV.sla false 1 p)) (rowsA (DV.sla false 1 h))).length ≤ (wsA (rowsA (DV.sla false 2 es)) (rowsA (DV.sla false 1 p)) (rowsA (DV.sla false 1 h))).length))
 (need (FSpec.D (sumS) [(.sl (SK.ro) 1 (List.take (wsA (rowsA (DV.sla false 2 es)) (rowsA (DV.sla false 1 p)) (rowsA (DV.sla false 1 h))).length (wsA (rowsA (DV.sla false 2 es)) (rowsA (DV.sla false 1 p)) (rowsA (DV.sla false 1 h)))))])
 (some (.tuple [(.int .i64 (bif fitsB (sumZ (rows (DV.sl SK.ro 1 (List.take (wsA (rowsA (DV.sla false 2 es)) (rowsA (DV.sla false 1 p)) (rowsA (DV.sla false 1 h))).length (wsA (rowsA (DV.sla false 2 es)) (rowsA (DV.sla false 1 p)) (rowsA (DV.sla false 1 h))))))) then sumZ (rows (DV.sl SK.ro 1 (List.take (wsA (rowsA (DV.sla false 2 es)) (rowsA (DV.sla false 1 p)) (rowsA (DV.sla false 1 h))).length (wsA (rowsA (DV.sla false 2 es)) (rowsA (DV.sla false 1 p)) (rowsA (DV.sla false 1 h)))))) else (0 : Int))), (.bool (fitsB (sumZ (rows (DV.sl SK.ro 1 (List.take (wsA (rowsA (DV.sla false 2 es)) (rowsA (DV.sla false 1 p)) (rowsA (DV.sla false 1 h))).length (wsA (rowsA (DV.sla false 2 es)) (rowsA (DV.sla false 1 p)) (rowsA (DV.sla false 1 h)))))))))])))
 none))
 (need (LoopOk (LB tab spV lp5 L (n + (8 : Nat)) h220 c22l0) (St.of [(1, (.d (.sla false 1 p))), (2, (.d (.sla false 1 h))), (8, (.d .nilsl)), (25, (.d (.sla false 2 es))), (26, (.d (.int .i64 ((↑es.length : Int))))), (27, (.d (.int .i64 ((0 : Int)))))] [(43, .none), (51, .none), (50051, .none)]) ((.ex 0), (St.of [(8, (.aref 50051 1 0 ((wsA (rowsA (DV.sla false 2 es)) (rowsA (DV.sla false 1 p)) (rowsA (DV.sla false 1 h))).length)))] [(43, .none), (51, .none), (50051, (.some (.dat 2 1 (wsA (rowsA (DV.sla false 2 es)) (rowsA (DV.sla false 1 p)) (rowsA (DV.sla false 1 h))))))])))
 (cond (decide ((0 : Nat) + (wsA (rowsA (DV.sla false 2 es)) (rowsA (DV.sla false 1 p)) (rowsA (DV.sla false 1 h))).length ≤ (wsA (rowsA (DV.sla false 2 es)) (rowsA (DV.sla false 1 p)) (rowsA (DV.sla false 1 h))).length))
 (need (FSpec.D (sumS) [(.sl (SK.ro) 1 (List.take (wsA (rowsA (DV.sla false 2 es)) (rowsA (DV.sla false 1 p)) (rowsA (DV.sla false 1 h))).length (wsA (rowsA (DV.sla false 2 es)) (rowsA (DV.sla false 1 p)) (rowsA (DV.sla false 1 h)))))])
 (some (.tuple [(.int .i64 (bif fitsB (sumZ (rows (DV.sl SK.ro 1 (List.take (wsA (rowsA (DV.sla false 2 es)) (rowsA (DV.sla false 1 p)) (rowsA (DV.sla false 1 h))).length (wsA (rowsA (DV.sla false 2 es)) (rowsA (DV.sla false 1 p)) (rowsA (DV.sla false 1 h))))))) then sumZ (rows (DV.sl SK.ro 1 (List.take (wsA (rowsA (DV.sla false 2 es)) (rowsA (DV.sla false 1 p)) (rowsA (DV.sla false 1 h))).length (wsA (rowsA (DV.sla false 2 es)) (rowsA (DV.sla false 1 p)) (rowsA (DV.sla false 1 h)))))) else (0 : Int))), (.bool (fitsB (sumZ (rows (DV.sl SK.ro 1 (List.take (wsA (rowsA (DV.sla false 2 es)) (rowsA (DV.sla false 1 p)) (rowsA (DV.sla false 1 h))).length (wsA (rowsA (DV.sla false 2 es)) (rowsA (DV.sla false 1 p)) (rowsA (DV.sla false 1 h)))))))))])))
 none))))
 (need (LoopOk (LB tab spV lp5 L (n + (8 : Nat)) h220 c22l0) (St.of [(1, (.d (.sla false 1 p))), (2, (.d (.sla false 1 h))), (8, (.d .nilsl)), (25, (.d (.sla false 2 es))), (26, (.d (.int .i64 ((↑es.length : Int))))), (27, (.d (.int .i64 ((0 : Int)))))] [(43, .none), (51, .none), (50051, .none)]) (.ret, (St.of [(6, (.d (.int .i64 ((0 : Int))))), (7, (.d (.bool false)))] [(54, .none)])))
 (some (.tuple [(.int .i64 ((0 : Int))), (.bool false)]))))) from by kernel_rfl).trans (by first | rfl | (simp only [decide_true, decide_false, eq_self, and_true, true_and, and_self, cond_true, cond_false, Nat.le_refl, Int.le_refl, Option.getD_some, Option.getD_none, Int.toNat_natCast, List.take_length, List.drop_zero, Nat.zero_add, List.nil_append, List.all_nil, List.append_nil, Bool.true_and, Bool.and_true, rowsA_sla, rowsA_sl, rowsA_nil, minus_zero, nat_le_cast, nat_nonneg, Option.isSome_some, Option.isSome_none, Bool.false_eq_true, false_and, and_false, if_true, if_false, implies_true, Int.toNat_zero, Bool.not_false, Bool.not_true, bne_self_eq_false]; done) | (simp only [decide_true, decide_false, eq_self, and_true, true_and, and_self, cond_true, cond_false, Nat.le_refl, Int.le_refl, Option.getD_some, Option.getD_none, Int.toNat_natCast, List.take_length, List.drop_zero, Nat.zero_add, List.nil_append, List.all_nil, List.append_nil, Bool.true_and, Bool.and_true, rowsA_sla, rowsA_sl, rowsA_nil, minus_zero, nat_le_cast, nat_nonneg, Option.isSome_some, Option.isSome_none, Bool.false_eq_true, false_and, and_false, if_true, if_false, implies_true, Int.toNat_zero, Bool.not_false, Bool.not_true, bne_self_eq_false]; rfl))
theorem t23 (L n : Nat) (es p h : List (List DV)) : FK tab spV lp5 L (n+8) 23 [.sla false 2 es, .sla false 1 p, .sla false 1 h] =
   (bif bif (↑p.length : Int) != (↑es.length : Int) then true else (↑h.length : Int) != (↑es.length : Int) then
 some (DV.tuple [DV.int .i64 0, DV.bool false])
 else
 bif allB (osA es p h) && fitsB (sumZ (wsA es p h)) then
 need
 (LoopOk (LB tab spV lp5 L (n + (8 : Nat)) h230 c23l0)
 (St.of
 [(0, AV.d (DV.sla false 2 es)), (1, AV.d (DV.sla false 1 p)), (2, AV.d (DV.sla false 1 h)),
 ((8 : Nat), AV.d (DV.int .i64 0)), (9, AV.d (DV.int .i64 0))]
 [(52, none)])
 (Ex.ex (0 : Nat), St.of [(8, AV.d (DV.int .i64 (sumZ (wsA es p h))))] [(52, none)]))
 (some (DV.tuple [DV.int .i64 (sumZ (wsA es p h)), DV.bool true]))
 else
 need
 (LoopOk (LB tab spV lp5 L (n + (8 : Nat)) h230 c23l0)
 (St.of
 [(0, AV.d (DV.sla false 2 es)), (1, AV.d (DV.sla false 1 p)), (2, AV.d (DV.sla false 1 h)),
 ((8 : Nat), AV.d (DV.int .i64 0)), (9, AV.d (DV.int .i64 0))]
 [(52, none)])
 (Ex.ret, St.of [(6, AV.d (DV.int .i64 0)), (7, AV.d (DV.bool false))] [(52, none)]))
 (some (DV.tuple [DV.int .i64 0, DV.bool false]))) :=
  (show FK tab spV lp5 L (n+8) 23 [.sla false 2 es, .sla false 1 p, .sla false 1 h] =
 (cond (bif (↑p.length : Int) != (↑es.length : Int) then true else (↑h.length : Int) != (↑es.length : Int))
 (some (.tuple [(.int .i64 ((0 : Int))), (.bool false)]))
 (cond (allB (osA (rowsA (DV.sla false 2 es)) (rowsA (DV.sla false 1 p)) (rowsA (DV.sla false 1 h))) && fitsB (sumZ (wsA (rowsA (DV.sla false 2 es)) (rowsA (DV.sla false 1 p)) (rowsA (DV.sla false 1 h)))))
 (need (LoopOk (LB tab spV lp5 L (n + (8 : Nat)) h230 c23l0) (St.of [(0, (.d (.sla false 2 es))), (1, (.d (.sla false 1 p))), (2, (.d (.sla false 1 h))), (8, (.d (.int .i64 ((0 : Int))))), (9, (.d (.int .i64 ((0 : Int)))))] [(52, .none)]) ((.ex 0), (St.of [(8, (.d (.int .i64 (sumZ (wsA (rowsA (DV.sla false 2 es)) (rowsA (DV.sla false 1 p)) (rowsA (DV.sla false 1 h)))))))] [(52, .none)])))
 (some (.tuple [(.int .i64 (sumZ (wsA (rowsA (DV.sla false 2 es)) (rowsA (DV.sla false 1 p)) (rowsA (DV.sla false 1 h))))), (.bool true)])))
 (need (LoopOk (LB tab spV lp5 L (n + (8 : Nat)) h230 c23l0) (St.of [(0, (.d (.sla false 2 es))), (1, (.d (.sla false 1 p))), (2, (.d (.sla false 1 h))), (8, (.d (.int .i64 ((0 : Int))))), (9, (.d (.int .i64 ((0 : Int)))))] [(52, .none)]) (.ret, (St.of [(6, (.d (.int .i64 ((0 : Int))))), (7, (.d (.bool false)))] [(52, .none)])))
 (some (.tuple [(.int .i64 ((0 : Int))), (.bool false)]))))) from by kernel_rfl).trans (by first | rfl | (simp only [decide_true, decide_false, eq_self, and_true, true_and, and_self, cond_true, cond_false, Nat.le_refl, Int.le_refl, Option.getD_some, Option.getD_none, Int.toNat_natCast, List.take_length, List.drop_zero, Nat.zero_add, List.nil_append, List.all_nil, List.append_nil, Bool.true_and, Bool.and_true, rowsA_sla, rowsA_sl, rowsA_nil, minus_zero, nat_le_cast, nat_nonneg, Option.isSome_some, Option.isSome_none, Bool.false_eq_true, false_and, and_false, if_true, if_false, implies_true, Int.toNat_zero, Bool.not_false, Bool.not_true, bne_self_eq_false]; done) | (simp only [decide_true, decide_false, eq_self, and_true, true_and, and_self, cond_true, cond_false, Nat.le_refl, Int.le_refl, Option.getD_some, Option.getD_none, Int.toNat_natCast, List.take_length, List.drop_zero, Nat.zero_add, List.nil_append, List.all_nil, List.append_nil, Bool.true_and, Bool.and_true, rowsA_sla, rowsA_sl, rowsA_nil, minus_zero, nat_le_cast, nat_nonneg, Option.isSome_some, Option.isSome_none, Bool.false_eq_true, false_and, and_false, if_true, if_false, implies_true, Int.toNat_zero, Bool.not_false, Bool.not_true, bne_self_eq_false]; rfl))
theorem s220n (L n : Nat) (es p h : List (List DV)) (N : Int) (i : Nat) (k : Kont) : LB tab spV lp5 L (n+4) h220 c22l0 (S220 es p h (.d .nilsl) N i [(51, none), (50051, none)]) k =
   (bif decide ((↑i : Int) < N) then
 lookK es[i]? fun (e1 : List DV) =>
 bif okRow [DV.int .i64 0, DV.int .i64 0] e1 then
 lookK p[i]? fun (e4 : List DV) =>
 bif okRow [DV.int .i64 0] e4 then
 lookK h[i]? fun (e7 : List DV) =>
 bif okRow [DV.int .i64 0] e7 then
 need
 (worthV.D
 [DV.int .i64 (cellA e4 0).toI, DV.int .i64 (cellA e7 0).toI, DV.int .i64 (cellA e1 1).toI])
 (bif !wOk (cellA e4 0).toI (cellA e7 0).toI (cellA e1 1).toI then
 k Ex.ret (St.of [(6, AV.d (DV.int .i64 0)), (7, AV.d (DV.bool false))] [(54, none)])
 else
 k Ex.nrm
 (St.of
 [(1, AV.d (DV.sla false 1 p)), (2, AV.d (DV.sla false 1 h)),
 ((8 : Nat), AV.aref 51 1 0 (1 : Nat)), (25, AV.d (DV.sla false 2 es)),
 ((26 : Nat), AV.d (DV.int .i64 N)), (27, AV.d (DV.int .i64 (IntKind.i64.wrap ((↑i : Int) + (1 : Int)))))]
 [(43, none),
 ((51 : Nat),
 some
 (Ob.dat 2 1
 [[DV.int .i64
 (bif wOk (cellA e4 0).toI (cellA e7 0).toI (cellA e1 1).toI then
 wI (cellA e4 0).toI (cellA e7 0).toI (cellA e1 1).toI
 else (0 : Int))]])),
 ((50051 : Nat), none)]))
 else none
 else none
 else none
 else k (Ex.ex (0 : Nat)) (St.of [(8, AV.d DV.nilsl)] [(43, none), (51, none), (50051, none)])) :=
  (show LB tab spV lp5 L (n+4) h220 c22l0 (S220 es p h (.d .nilsl) N i [(51, none), (50051, none)]) k =
 (cond (decide ((↑i : Int) < N))
 (lookK (es[(↑i : Int).toNat]?)
 fun e1 =>
 (cond (okRow [DV.int .i64 0, DV.int .i64 0] e1)
 (lookK (p[(↑i : Int).toNat]?)
 fun e4 =>
 (cond (okRow [DV.int .i64 0] e4)
 (lookK (h[(↑i : Int).toNat]?)
 fun e7 =>
 (cond (okRow [DV.int .i64 0] e7)
 (need (FSpec.D (worthV) [(.int .i64 ((cellA e4 0).toI)), (.int .i64 ((cellA e7 0).toI)), (.int .i64 ((cellA e1 1).toI))])
 (cond (!wOk (cellA e4 0).toI (cellA e7 0).toI (cellA e1 1).toI)
 (k .ret (St.of [(6, (.d (.int .i64 ((0 : Int))))), (7, (.d (.bool false)))] [(54, .none)]))
 (k .nrm (St.of [(1, (.d (.sla false 1 p))), (2, (.d (.sla false 1 h))), (8, (.aref 51 1 0 1)), (25, (.d (.sla false 2 es))), (26, (.d (.int .i64 N))), (27, (.d (.int .i64 (IntKind.i64.wrap ((↑i : Int) + (1 : Int))))))] [(43, .none), (51, (.some (.dat 2 1 [[(.int .i64 (bif wOk (cellA e4 0).toI (cellA e7 0).toI (cellA e1 1).toI then wI (cellA e4 0).toI (cellA e7 0).toI (cellA e1 1).toI else (0 : Int)))]]))), (50051, .none)]))))
 none))
 none))
 none))
 (k (.ex 0) (St.of [(8, (.d .nilsl))] [(43, .none), (51, .none), (50051, .none)]))) from by kernel_rfl).trans (by first | rfl | (simp only [decide_true, decide_false, eq_self, and_true, true_and, and_self, cond_true, cond_false, Nat.le_refl, Int.le_refl, Option.getD_some, Option.getD_none, Int.toNat_natCast, List.take_length, List.drop_zero, Nat.zero_add, List.nil_append, List.all_nil, List.append_nil, Bool.true_and, Bool.and_true, rowsA_sla, rowsA_sl, rowsA_nil, minus_zero, nat_le_cast, nat_nonneg, Option.isSome_some, Option.isSome_none, Bool.false_eq_true, false_and, and_false, if_true, if_false, implies_true, Int.toNat_zero, Bool.not_false, Bool.not_true, bne_self_eq_false]; done) | (simp only [decide_true, decide_false, eq_self, and_true, true_and, and_self, cond_true, cond_false, Nat.le_refl, Int.le_refl, Option.getD_some, Option.getD_none, Int.toNat_natCast, List.take_length, List.drop_zero, Nat.zero_add, List.nil_append, List.all_nil, List.append_nil, Bool.true_and, Bool.and_true, rowsA_sla, rowsA_sl, rowsA_nil, minus_zero, nat_le_cast, nat_nonneg, Option.isSome_some, Option.isSome_none, Bool.false_eq_true, false_and, and_false, if_true, if_false, implies_true, Int.toNat_zero, Bool.not_false, Bool.not_true, bne_self_eq_false]; rfl))
theorem s220a (L n : Nat) (es p h l : List (List DV)) (N : Int) (i : Nat) (k : Kont) : LB tab spV lp5 L (n+4) h220 c22l0 (S220 es p h (.aref 51 1 0 l.length) N i [(51, some (.dat 2 1 l)), (50051, none)]) k =
   (bif decide ((↑i : Int) < N) then
 lookK es[i]? fun (e1 : List DV) =>
 bif okRow [DV.int .i64 0, DV.int .i64 0] e1 then
 lookK p[i]? fun (e4 : List DV) =>
 bif okRow [DV.int .i64 0] e4 then
 lookK h[i]? fun (e7 : List DV) =>
 bif okRow [DV.int .i64 0] e7 then
 need
 (worthV.D
 [DV.int .i64 (cellA e4 0).toI, DV.int .i64 (cellA e7 0).toI, DV.int .i64 (cellA e1 1).toI])
 (bif !wOk (cellA e4 0).toI (cellA e7 0).toI (cellA e1 1).toI then
 k Ex.ret (St.of [(6, AV.d (DV.int .i64 0)), (7, AV.d (DV.bool false))] [(54, none)])
 else
 bif
 decide
 ((l ++
 [[DV.int .i64
 (bif wOk (cellA e4 0).toI (cellA e7 0).toI (cellA e1 1).toI then
 wI (cellA e4 0).toI (cellA e7 0).toI (cellA e1 1).toI
 else (0 : Int))]]).length *
 (8 : Nat) ≤
 room ∧
 (l ++
 [[DV.int .i64
 (bif wOk (cellA e4 0).toI (cellA e7 0).toI (cellA e1 1).toI then
 wI (cellA e4 0).toI (cellA e7 0).toI (cellA e1 1).toI
 else (0 : Int))]]).length ≤
 room) then
 k Ex.nrm
 (St.of
 [(1, AV.d (DV.sla false 1 p)), (2, AV.d (DV.sla false 1 h)),
 ((8 : Nat),
 AV.aref (alt (51 : Nat) (51 : Nat)) (1 : Nat) (0 : Nat)
 (l ++
 [[DV.int .i64
 (bif wOk (cellA e4 0).toI (cellA e7 0).toI (cellA e1 1).toI then
 wI (cellA e4 0).toI (cellA e7 0).toI (cellA e1 1).toI
 else (0 : Int))]]).length),
 ((25 : Nat), AV.d (DV.sla false 2 es)), (26, AV.d (DV.int .i64 N)),
 ((27 : Nat), AV.d (DV.int .i64 (IntKind.i64.wrap ((↑i : Int) + (1 : Int)))))]
 [(43, none), (51, none),
 ((50051 : Nat),
 some
 (Ob.dat 2 1
 (l ++
 [[DV.int .i64
 (bif wOk (cellA e4 0).toI (cellA e7 0).toI (cellA e1 1).toI then
 wI (cellA e4 0).toI (cellA e7 0).toI (cellA e1 1).toI
 else (0 : Int))]])))])
 else none)
 else none
 else none
 else none
 else
 k (Ex.ex (0 : Nat))
 (St.of [(8, AV.aref 51 1 0 l.length)]
 [(43, none), (51, some (Ob.dat 2 1 l)), (50051, none)])) :=
  (show LB tab spV lp5 L (n+4) h220 c22l0 (S220 es p h (.aref 51 1 0 l.length) N i [(51, some (.dat 2 1 l)), (50051, none)]) k =
 (cond (decide ((↑i : Int) < N))
 (lookK (es[(↑i : Int).toNat]?)
 fun e1 =>
 (cond (okRow [DV.int .i64 0, DV.int .i64 0] e1)
 (lookK (p[(↑i : Int).toNat]?)
 fun e4 =>
 (cond (okRow [DV.int .i64 0] e4)
 (lookK (h[(↑i : Int).toNat]?)
 fun e7 =>
 (cond (okRow [DV.int .i64 0] e7)
 (need (FSpec.D (worthV) [(.int .i64 ((cellA e4 0).toI)), (.int .i64 ((cellA e7 0).toI)), (.int .i64 ((cellA e1 1).toI))])
 (cond (!wOk (cellA e4 0).toI (cellA e7 0).toI (cellA e1 1).toI)
 (k .ret (St.of [(6, (.d (.int .i64 ((0 : Int))))), (7, (.d (.bool false)))] [(54, .none)]))
 (cond (decide ((2 : TypeId) = (2 : Nat) ∧ (1 : Nat) = (1 : Nat) ∧ (1 : Nat) = (1 : Nat) ∧ (0 : Nat) = (0 : Nat) ∧ l.length = l.length ∧ (l ++ [[DV.int .i64 (bif wOk (cellA e4 0).toI (cellA e7 0).toI (cellA e1 1).toI then wI (cellA e4 0).toI (cellA e7 0).toI (cellA e1 1).toI else (0 : Int))]]).length * (8 : Nat) ≤ room ∧ (l ++ [[DV.int .i64 (bif wOk (cellA e4 0).toI (cellA e7 0).toI (cellA e1 1).toI then wI (cellA e4 0).toI (cellA e7 0).toI (cellA e1 1).toI else (0 : Int))]]).length ≤ room))
 (k .nrm (St.of [(1, (.d (.sla false 1 p))), (2, (.d (.sla false 1 h))), (8, (.aref (alt 51 51) 1 0 ((l ++ [[DV.int .i64 (bif wOk (cellA e4 0).toI (cellA e7 0).toI (cellA e1 1).toI then wI (cellA e4 0).toI (cellA e7 0).toI (cellA e1 1).toI else 0)]]).length))), (25, (.d (.sla false 2 es))), (26, (.d (.int .i64 N))), (27, (.d (.int .i64 (IntKind.i64.wrap ((↑i : Int) + (1 : Int))))))] [(43, .none), (51, .none), (50051, (.some (.dat 2 1 (l ++ [[DV.int .i64 (bif wOk (cellA e4 0).toI (cellA e7 0).toI (cellA e1 1).toI then wI (cellA e4 0).toI (cellA e7 0).toI (cellA e1 1).toI else (0 : Int))]]))))]))
 none)))
 none))
 none))
 none))
 (k (.ex 0) (St.of [(8, (.aref 51 1 0 (l.length)))] [(43, .none), (51, (.some (.dat 2 1 l))), (50051, .none)]))) from by kernel_rfl).trans (by first | rfl | (simp only [decide_true, decide_false, eq_self, and_true, true_and, and_self, cond_true, cond_false, Nat.le_refl, Int.le_refl, Option.getD_some, Option.getD_none, Int.toNat_natCast, List.take_length, List.drop_zero, Nat.zero_add, List.nil_append, List.all_nil, List.append_nil, Bool.true_and, Bool.and_true, rowsA_sla, rowsA_sl, rowsA_nil, minus_zero, nat_le_cast, nat_nonneg, Option.isSome_some, Option.isSome_none, Bool.false_eq_true, false_and, and_false, if_true, if_false, implies_true, Int.toNat_zero, Bool.not_false, Bool.not_true, bne_self_eq_false]; done) | (simp only [decide_true, decide_false, eq_self, and_true, true_and, and_self, cond_true, cond_false, Nat.le_refl, Int.le_refl, Option.getD_some, Option.getD_none, Int.toNat_natCast, List.take_length, List.drop_zero, Nat.zero_add, List.nil_append, List.all_nil, List.append_nil, Bool.true_and, Bool.and_true, rowsA_sla, rowsA_sl, rowsA_nil, minus_zero, nat_le_cast, nat_nonneg, Option.isSome_some, Option.isSome_none, Bool.false_eq_true, false_and, and_false, if_true, if_false, implies_true, Int.toNat_zero, Bool.not_false, Bool.not_true, bne_self_eq_false]; rfl))
theorem s220b (L n : Nat) (es p h l : List (List DV)) (N : Int) (i : Nat) (k : Kont) : LB tab spV lp5 L (n+4) h220 c22l0 (S220 es p h (.aref 50051 1 0 l.length) N i [(51, none), (50051, some (.dat 2 1 l))]) k =
   (bif decide ((↑i : Int) < N) then
 lookK es[i]? fun (e1 : List DV) =>
 bif okRow [DV.int .i64 0, DV.int .i64 0] e1 then
 lookK p[i]? fun (e4 : List DV) =>
 bif okRow [DV.int .i64 0] e4 then
 lookK h[i]? fun (e7 : List DV) =>
 bif okRow [DV.int .i64 0] e7 then
 need
 (worthV.D
 [DV.int .i64 (cellA e4 0).toI, DV.int .i64 (cellA e7 0).toI, DV.int .i64 (cellA e1 1).toI])
 (bif !wOk (cellA e4 0).toI (cellA e7 0).toI (cellA e1 1).toI then
 k Ex.ret (St.of [(6, AV.d (DV.int .i64 0)), (7, AV.d (DV.bool false))] [(54, none)])
 else
 bif
 decide
 ((l ++
 [[DV.int .i64
 (bif wOk (cellA e4 0).toI (cellA e7 0).toI (cellA e1 1).toI then
 wI (cellA e4 0).toI (cellA e7 0).toI (cellA e1 1).toI
 else (0 : Int))]]).length *
 (8 : Nat) ≤
 room ∧
 (l ++
 [[DV.int .i64
 (bif wOk (cellA e4 0).toI (cellA e7 0).toI (cellA e1 1).toI then
 wI (cellA e4 0).toI (cellA e7 0).toI (cellA e1 1).toI
 else (0 : Int))]]).length ≤
 room) then
 k Ex.nrm
 (St.of
 [(1, AV.d (DV.sla false 1 p)), (2, AV.d (DV.sla false 1 h)),
 ((8 : Nat),
 AV.aref (alt (50051 : Nat) (51 : Nat)) (1 : Nat) (0 : Nat)
 (l ++
 [[DV.int .i64
 (bif wOk (cellA e4 0).toI (cellA e7 0).toI (cellA e1 1).toI then
 wI (cellA e4 0).toI (cellA e7 0).toI (cellA e1 1).toI
 else (0 : Int))]]).length),
 ((25 : Nat), AV.d (DV.sla false 2 es)), (26, AV.d (DV.int .i64 N)),
 ((27 : Nat), AV.d (DV.int .i64 (IntKind.i64.wrap ((↑i : Int) + (1 : Int)))))]
 [(43, none),
 ((51 : Nat),
 some
 (Ob.dat 2 1
 (l ++
 [[DV.int .i64
 (bif wOk (cellA e4 0).toI (cellA e7 0).toI (cellA e1 1).toI then
 wI (cellA e4 0).toI (cellA e7 0).toI (cellA e1 1).toI
 else (0 : Int))]]))),
 ((50051 : Nat), none)])
 else none)
 else none
 else none
 else none
 else
 k (Ex.ex (0 : Nat))
 (St.of [(8, AV.aref 50051 1 0 l.length)]
 [(43, none), (51, none), (50051, some (Ob.dat 2 1 l))])) :=
  (show LB tab spV lp5 L (n+4) h220 c22l0 (S220 es p h (.aref 50051 1 0 l.length) N i [(51, none), (50051, some (.dat 2 1 l))]) k =
 (cond (decide ((↑i : Int) < N))
 (lookK (es[(↑i : Int).toNat]?)
 fun e1 =>
 (cond (okRow [DV.int .i64 0, DV.int .i64 0] e1)
 (lookK (p[(↑i : Int).toNat]?)
 fun e4 =>
 (cond (okRow [DV.int .i64 0] e4)
 (lookK (h[(↑i : Int).toNat]?)
 fun e7 =>
 (cond (okRow [DV.int .i64 0] e7)
 (need (FSpec.D (worthV) [(.int .i64 ((cellA e4 0).toI)), (.int .i64 ((cellA e7 0).toI)), (.int .i64 ((cellA e1 1).toI))])
 (cond (!wOk (cellA e4 0).toI (cellA e7 0).toI (cellA e1 1).toI)
 (k .ret (St.of [(6, (.d (.int .i64 ((0 : Int))))), (7, (.d (.bool false)))] [(54, .none)]))
 (cond (decide ((2 : TypeId) = (2 : Nat) ∧ (1 : Nat) = (1 : Nat) ∧ (1 : Nat) = (1 : Nat) ∧ (0 : Nat) = (0 : Nat) ∧ l.length = l.length ∧ (l ++ [[DV.int .i64 (bif wOk (cellA e4 0).toI (cellA e7 0).toI (cellA e1 1).toI then wI (cellA e4 0).toI (cellA e7 0).toI (cellA e1 1).toI else (0 : Int))]]).length * (8 : Nat) ≤ room ∧ (l ++ [[DV.int .i64 (bif wOk (cellA e4 0).toI (cellA e7 0).toI (cellA e1 1).toI then wI (cellA e4 0).toI (cellA e7 0).toI (cellA e1 1).toI else (0 : Int))]]).length ≤ room))
 (k .nrm (St.of [(1, (.d (.sla false 1 p))), (2, (.d (.sla false 1 h))), (8, (.aref (alt 50051 51) 1 0 ((l ++ [[DV.int .i64 (bif wOk (cellA e4 0).toI (cellA e7 0).toI (cellA e1 1).toI then wI (cellA e4 0).toI (cellA e7 0).toI (cellA e1 1).toI else 0)]]).length))), (25, (.d (.sla false 2 es))), (26, (.d (.int .i64 N))), (27, (.d (.int .i64 (IntKind.i64.wrap ((↑i : Int) + (1 : Int))))))] [(43, .none), (51, (.some (.dat 2 1 (l ++ [[DV.int .i64 (bif wOk (cellA e4 0).toI (cellA e7 0).toI (cellA e1 1).toI then wI (cellA e4 0).toI (cellA e7 0).toI (cellA e1 1).toI else (0 : Int))]])))), (50051, .none)]))
 none)))
 none))
 none))
 none))
 (k (.ex 0) (St.of [(8, (.aref 50051 1 0 (l.length)))] [(43, .none), (51, .none), (50051, (.some (.dat 2 1 l)))]))) from by kernel_rfl).trans (by first | rfl | (simp only [decide_true, decide_false, eq_self, and_true, true_and, and_self, cond_true, cond_false, Nat.le_refl, Int.le_refl, Option.getD_some, Option.getD_none, Int.toNat_natCast, List.take_length, List.drop_zero, Nat.zero_add, List.nil_append, List.all_nil, List.append_nil, Bool.true_and, Bool.and_true, rowsA_sla, rowsA_sl, rowsA_nil, minus_zero, nat_le_cast, nat_nonneg, Option.isSome_some, Option.isSome_none, Bool.false_eq_true, false_and, and_false, if_true, if_false, implies_true, Int.toNat_zero, Bool.not_false, Bool.not_true, bne_self_eq_false]; done) | (simp only [decide_true, decide_false, eq_self, and_true, true_and, and_self, cond_true, cond_false, Nat.le_refl, Int.le_refl, Option.getD_some, Option.getD_none, Int.toNat_natCast, List.take_length, List.drop_zero, Nat.zero_add, List.nil_append, List.all_nil, List.append_nil, Bool.true_and, Bool.and_true, rowsA_sla, rowsA_sl, rowsA_nil, minus_zero, nat_le_cast, nat_nonneg, Option.isSome_some, Option.isSome_none, Bool.false_eq_true, false_and, and_false, if_true, if_false, implies_true, Int.toNat_zero, Bool.not_false, Bool.not_true, bne_self_eq_false]; rfl))
theorem s230 (L n : Nat) (es p h : List (List DV)) (m : Int) (i : Nat) (k : Kont) : LB tab spV lp5 L (n+4) h230 c23l0 (S230 es p h m i) k =
   (bif decide ((↑i : Int) < (↑es.length : Int)) then
 lookK p[i]? fun (e1 : List DV) =>
 bif okRow [DV.int .i64 0] e1 then
 lookK h[i]? fun (e4 : List DV) =>
 bif okRow [DV.int .i64 0] e4 then
 lookK es[i]? fun (e7 : List DV) =>
 bif okRow [DV.int .i64 0, DV.int .i64 0] e7 then
 need
 (worthV.D
 [DV.int .i64 (cellA e1 0).toI, DV.int .i64 (cellA e4 0).toI, DV.int .i64 (cellA e7 1).toI])
 (need
 (addF.D
 [DV.int .i64 m, DV.int .i64
 (bif wOk (cellA e1 0).toI (cellA e4 0).toI (cellA e7 1).toI then
 wI (cellA e1 0).toI (cellA e4 0).toI (cellA e7 1).toI
 else (0 : Int))])
 (bif
 bif !wOk (cellA e1 0).toI (cellA e4 0).toI (cellA e7 1).toI then true
 else
 !fitsB
 (m +
 bif wOk (cellA e1 0).toI (cellA e4 0).toI (cellA e7 1).toI then
 wI (cellA e1 0).toI (cellA e4 0).toI (cellA e7 1).toI
 else (0 : Int)) then
 k Ex.ret (St.of [(6, AV.d (DV.int .i64 0)), (7, AV.d (DV.bool false))] [(52, none)])
 else
 k Ex.nrm
 (St.of
 [(0, AV.d (DV.sla false 2 es)), (1, AV.d (DV.sla false 1 p)),
 ((2 : Nat), AV.d (DV.sla false 1 h)),
 ((8 : Nat),
 AV.d
 (DV.int .i64
 (bif
 fitsB
 (m +
 bif wOk (cellA e1 0).toI (cellA e4 0).toI (cellA e7 1).toI then
 wI (cellA e1 0).toI (cellA e4 0).toI (cellA e7 1).toI
 else (0 : Int)) then
 m +
 bif wOk (cellA e1 0).toI (cellA e4 0).toI (cellA e7 1).toI then
 wI (cellA e1 0).toI (cellA e4 0).toI (cellA e7 1).toI
 else (0 : Int)
 else (0 : Int)))),
 ((9 : Nat), AV.d (DV.int .i64 (IntKind.i64.wrap ((↑i : Int) + (1 : Int)))))]
 [(52, none)])))
 else none
 else none
 else none
 else k (Ex.ex (0 : Nat)) (St.of [(8, AV.d (DV.int .i64 m))] [(52, none)])) :=
  (show LB tab spV lp5 L (n+4) h230 c23l0 (S230 es p h m i) k =
 (cond (decide ((↑i : Int) < (↑es.length : Int)))
 (lookK (p[(↑i : Int).toNat]?)
 fun e1 =>
 (cond (okRow [DV.int .i64 0] e1)
 (lookK (h[(↑i : Int).toNat]?)
 fun e4 =>
 (cond (okRow [DV.int .i64 0] e4)
 (lookK (es[(↑i : Int).toNat]?)
 fun e7 =>
 (cond (okRow [DV.int .i64 0, DV.int .i64 0] e7)
 (need (FSpec.D (worthV) [(.int .i64 ((cellA e1 0).toI)), (.int .i64 ((cellA e4 0).toI)), (.int .i64 ((cellA e7 1).toI))])
 (need (FSpec.D (addF) [(.int .i64 m), (.int .i64 (bif wOk (cellA e1 0).toI (cellA e4 0).toI (cellA e7 1).toI then wI (cellA e1 0).toI (cellA e4 0).toI (cellA e7 1).toI else (0 : Int)))])
 (cond (bif !wOk (cellA e1 0).toI (cellA e4 0).toI (cellA e7 1).toI then true else !fitsB (m + bif wOk (cellA e1 0).toI (cellA e4 0).toI (cellA e7 1).toI then wI (cellA e1 0).toI (cellA e4 0).toI (cellA e7 1).toI else (0 : Int)))
 (k .ret (St.of [(6, (.d (.int .i64 ((0 : Int))))), (7, (.d (.bool false)))] [(52, .none)]))
 (k .nrm (St.of [(0, (.d (.sla false 2 es))), (1, (.d (.sla false 1 p))), (2, (.d (.sla false 1 h))), (8, (.d (.int .i64 (bif fitsB (m + bif wOk (cellA e1 0).toI (cellA e4 0).toI (cellA e7 1).toI then wI (cellA e1 0).toI (cellA e4 0).toI (cellA e7 1).toI else (0 : Int)) then m + bif wOk (cellA e1 0).toI (cellA e4 0).toI (cellA e7 1).toI then wI (cellA e1 0).toI (cellA e4 0).toI (cellA e7 1).toI else (0 : Int) else (0 : Int))))), (9, (.d (.int .i64 (IntKind.i64.wrap ((↑i : Int) + (1 : Int))))))] [(52, .none)])))))
 none))
 none))
 none))
 (k (.ex 0) (St.of [(8, (.d (.int .i64 m)))] [(52, .none)]))) from by kernel_rfl).trans (by first | rfl | (simp only [decide_true, decide_false, eq_self, and_true, true_and, and_self, cond_true, cond_false, Nat.le_refl, Int.le_refl, Option.getD_some, Option.getD_none, Int.toNat_natCast, List.take_length, List.drop_zero, Nat.zero_add, List.nil_append, List.all_nil, List.append_nil, Bool.true_and, Bool.and_true, rowsA_sla, rowsA_sl, rowsA_nil, minus_zero, nat_le_cast, nat_nonneg, Option.isSome_some, Option.isSome_none, Bool.false_eq_true, false_and, and_false, if_true, if_false, implies_true, Int.toNat_zero, Bool.not_false, Bool.not_true, bne_self_eq_false]; done) | (simp only [decide_true, decide_false, eq_self, and_true, true_and, and_self, cond_true, cond_false, Nat.le_refl, Int.le_refl, Option.getD_some, Option.getD_none, Int.toNat_natCast, List.take_length, List.drop_zero, Nat.zero_add, List.nil_append, List.all_nil, List.append_nil, Bool.true_and, Bool.and_true, rowsA_sla, rowsA_sl, rowsA_nil, minus_zero, nat_le_cast, nat_nonneg, Option.isSome_some, Option.isSome_none, Bool.false_eq_true, false_and, and_false, if_true, if_false, implies_true, Int.toNat_zero, Bool.not_false, Bool.not_true, bne_self_eq_false]; rfl))
theorem okRow_form {e : List DV} (h : okRow z1 e = true) : ∃ n, e = [.int .i64 n] := by
  match e, h with
  | [], h => simp [okRow] at h
  | [c], h =>
    cases c <;> simp [okRow, kindsOk, DV.isK] at h
    subst h
    exact ⟨_, rfl⟩
  | a :: b :: l, h => simp [okRow] at h
theorem allOne {es : List (List DV)} (h : ∀ e ∈ es, okRow z1 e = true) : (es.all fun e => e.length == 1 && e.all DV.one) = true := by
  rw [List.all_eq_true]
  intro e he
  obtain ⟨n, rfl⟩ := okRow_form (h e he)
  rfl
theorem setL_length (es : List (List DV)) (i v : Int) : (setL es i v).length = es.length := by
  unfold setL
  cases decide (0 ≤ i ∧ i < es.length) <;> simp
theorem setL_rows {es : List (List DV)} (h : ∀ e ∈ es, okRow z1 e = true) (i v : Int) : ∀ e ∈ setL es i v, okRow z1 e = true := by
  unfold setL
  cases decide (0 ≤ i ∧ i < es.length) with
  | false => exact h
  | true =>
    intro e he
    rcases List.mem_or_eq_of_mem_set he with he | rfl
    · exact h e he
    · rfl
theorem room1 {n : Nat} (h : n ≤ 1000000) : decide (n * 8 ≤ room ∧ n ≤ room) = true := decide_eq_true (by unfold room; omega)
theorem loop240 (L n : Nat) {es es2 : List (List DV)} (hz : ∀ e ∈ es, okRow z1 e = true) (hz2 : ∀ e ∈ es2, okRow z1 e = true) (hl : es.length ≤ 1000) (hle : es2.length = es.length) : ∀ r, (LR.br (same1 es es2) (.one (.ex 0) (St.of [] [])) (.one .ret (St.of [(4, .d (.bool false))] []))).val = some r →
    LoopOk (LB tab noSp lp5 L (n+4) h240 c24l0) (S240 (.sla false 1 es) (.sla false 1 es2) 0) r := by
  intro r hr
  have key := loop_list (f := LB tab noSp lp5 L (n+4) h240 c24l0) (fun i => S240 (.sla false 1 es) (.sla false 1 es2) (i : Nat)) es (fun i => ((LR.br (same1 (es.drop i) (es2.drop i)) (.one (.ex 0) (St.of [] [])) (.one .ret (St.of [(4, .d (.bool false))] []))).val).getD (.nrm, St.of [] []))
    (fun i hi => by
      have hzi := hz es[i] (List.getElem_mem hi)
      have hi2 : i < es2.length := by omega
      have hzi2 := hz2 es2[i] (List.getElem_mem hi2)
      have hd : same1 (es.drop i) (es2.drop i) = (decide (int1 es[i] = int1 es2[i]) && same1 (es.drop (i + 1)) (es2.drop (i + 1))) := by
        unfold same1
        rw [List.drop_eq_getElem_cons hi, List.drop_eq_getElem_cons hi2]
        simp only [List.map_cons, List.cons.injEq, Bool.decide_and]
      have hb : ((cellA es[i] 0).toI != (cellA es2[i] 0).toI) = !decide (int1 es[i] = int1 es2[i]) := by
        by_cases h : int1 es[i] = int1 es2[i]
        · rw [decide_eq_true h]; exact bne_eq_false_iff_eq.2 h
        · rw [decide_eq_false h]; exact bne_iff_ne.2 h
      have hstep : ∀ k, LB tab noSp lp5 L (n+4) h240 c24l0 (S240 (.sla false 1 es) (.sla false 1 es2) (i : Nat)) k = cond (decide (int1 es[i] = int1 es2[i])) (k .nrm (S240 (.sla false 1 es) (.sla false 1 es2) ((i + 1 : Nat) : Int))) (k .ret (St.of [(4, .d (.bool false))] [])) := by
        intro k
        rw [s240, lt_dec hi, cond_true, look_nat hi, hzi, cond_true, look_nat hi2, hzi2, cond_true, wrap_succ (by omega), hb]
        cases decide (int1 es[i] = int1 es2[i]) <;> rfl
      cases hc : decide (int1 es[i] = int1 es2[i]) with
      | false =>
        right
        simp only [hd, hc, Bool.false_and, LR.val, cond_false, Option.getD_some]
        exact ⟨by simp, fun k => by rw [hstep, hc]; rfl⟩
      | true =>
        left
        simp only [hd, hc, Bool.true_and]
        exact ⟨fun k => by rw [hstep, hc]; rfl, trivial⟩)
    (by
      have he : es2.drop es.length = [] := by rw [← hle, List.drop_length]
      simp only [List.drop_length, he, same1, decide_true, LR.val, cond_true, Option.getD_some]
      exact ⟨by simp, fun k => by rw [s240, lt_dec_self]; rfl⟩)
  simp only [List.drop_zero, hr, Option.getD_some] at key
  exact key
theorem same24 : samA.ok Try.prog 24 := fun ds r hD hv => by
  obtain ⟨x, y, rfl, ⟨hx, hz, hl⟩, ⟨hy, hz2, hl2⟩⟩ := hD
  cases hv
  refine EntX.gen2 hx hy (spec_run (lsp := lp5) tab_ok noSp_ok 20 (0 + 8) ((t24 20 0 (rowsA x) (rowsA y)).trans ?_))
  generalize rowsA x = es at *
  generalize rowsA y = es2 at *
  by_cases hle : es2.length = es.length
  · have h := loop240 20 (0 + 4) hz hz2 hl hle
    rw [hle, bne_self_eq_false, cond_false]
    cases hb : same1 es es2 with
    | true =>
      rw [hb] at h
      exact (need_pos (h _ rfl)).trans rfl
    | false =>
      rw [hb] at h
      exact (need_pos (h _ rfl)).trans rfl
  · have hb : same1 es es2 = false := decide_eq_false fun h => hle (by have := congrArg List.length h; simpa using this.symm)
    rw [hb, show (((es.length : Nat) : Int) != ((es2.length : Nat) : Int)) = true from bne_iff_ne.2 (by omega)]
    rfl
theorem resI {f : FuncId} {ds : List DV} {x : DV} {sz : Nat} {es : List (List DV)} (hx : DLe (roTop x) (.sla false sz es)) (h : EntX Try.prog f ds x) : EntX Try.prog f ds (.sla false sz es) :=
  h.res hx rfl
/-- what Set's tree comes to -/
theorem set_end {es : List (List DV)} {i v : Int} (hz : ∀ e ∈ es, okRow z1 e = true) :
    cond (cond (decide (i ≥ 0)) (decide (i < (es.length : Int))) false) (cond (decide (0 ≤ i)) (cond (decide (i < (es.length : Int))) (lookK es[i.toNat]? fun e => cond (decide (1 ≤ e.length)) (cond (decide (es.length = (es.set i.toNat (DV.int .i64 v :: List.drop 1 e)).length)) (some (DV.sl (.own 2) 1 (es.set i.toNat (DV.int .i64 v :: List.drop 1 e)))) (cond (decide (es.length ≤ (es.set i.toNat (DV.int .i64 v :: List.drop 1 e)).length)) (some (DV.sl .ro 1 (List.take es.length (es.set i.toNat (DV.int .i64 v :: List.drop 1 e))))) none)) none) none) none) (some (DV.sl (.own 2) 1 es)) = some (DV.sl (.own 2) 1 (setL es i v)) := by
  by_cases hr : 0 ≤ i ∧ i < es.length
  · have hlt : i.toNat < es.length := by omega
    obtain ⟨m, hm⟩ := okRow_form (hz es[i.toNat] (List.getElem_mem hlt))
    rw [decide_eq_true (show i ≥ 0 from hr.1), decide_eq_true hr.2, look_nat hlt, hm]
    simp only [cond_true, List.length_singleton, Nat.le_refl, decide_true, List.drop_succ_cons, List.drop_nil, List.length_set]
    simp only [setL, decide_eq_true hr, cond_true]
  · have h1 : (cond (decide (i ≥ 0)) (decide (i < (es.length : Int))) false) = false := by
      rw [Bool.eq_false_iff]
      intro h
      simp at h
      omega
    rw [h1]
    simp only [cond_false, setL, decide_eq_false hr]
theorem set_nil {i v : Int} : (cond (decide (i ≥ 0)) (decide (i < (0 : Int))) false) = false ∧ setL [] i v = [] := by
  refine ⟨?_, ?_⟩
  · rw [Bool.eq_false_iff]
    intro h
    simp at h
    omega
  · unfold setL
    rw [decide_eq_false (by simp)]
    rfl
theorem set25 : setA.ok Try.prog 25 := fun ds r hD hv => by
  obtain ⟨x, i, v, rfl, hx, hz, hl⟩ := hD
  cases hv
  refine EntX.gen1 hx (EntX.sla (fun he => ?_) ?_)
  · rw [he, set_nil.2]
    exact resI (x := .nilsl) (DLe.nil _ _) (spec_run (lsp := lp5) tab_ok noSp_ok 20 (0 + 8) ((t25n 20 0 i v).trans (by rw [set_nil (v := v).1, cond_false])))
  · generalize rowsA x = es at *
    refine resI (x := .sl (.own 2) 1 (setL es i v)) (DLe.sl _ _ _) (spec_run (lsp := lp5) tab_ok noSp_ok 20 (0 + 8) ((t25 20 0 es i v).trans ?_))
    by_cases h0 : es.length = 0
    · have : es = [] := List.eq_nil_of_length_eq_zero h0
      subst this
      rw [decide_eq_true h0, cond_true, (set_nil (i := i) (v := v)).1, (set_nil (i := i) (v := v)).2, cond_false]
    · rw [decide_eq_false h0, cond_false, allOne hz, cond_true, room1 (by omega), cond_true]
      exact set_end hz
theorem set26 : setA.ok Try.prog 26 := fun ds r hD hv => by
  obtain ⟨x, i, v, rfl, hx, hz, hl⟩ := hD
  cases hv
  refine EntX.gen1 hx ?_
  generalize rowsA x = es at *
  refine resI (x := .sl (.own 2) 1 (setL es i v)) (DLe.sl _ _ _) (spec_run (lsp := lp5) tab_ok noSp_ok 20 (0 + 8) ((t26 20 0 es i v).trans ?_))
  by_cases h0 : es.length = 0
  · have : es = [] := List.eq_nil_of_length_eq_zero h0
    subst this
    rw [decide_eq_true h0, cond_true, (set_nil (i := i) (v := v)).1, (set_nil (i := i) (v := v)).2, cond_false]
  · rw [decide_eq_false h0, cond_false, allOne hz, cond_true, room1 (by omega), cond_true]
    exact set_end hz
end Go.Proofs.Ytianifckopijjaa
