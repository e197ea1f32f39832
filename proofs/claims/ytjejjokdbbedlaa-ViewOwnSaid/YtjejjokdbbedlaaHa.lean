/- What is known of the document's own functions on rows of payments, by their runs, and the plain law of rows. No condition. -/
import Derived.Test.YtjejjokdbbedlaaVmT
import Derived.Test.YtjejjokdbbedlaaCode
namespace Go.Proofs.Ytjejjokdbbedlaa
open Go Go.Proofs Go.RowKit Vm
set_option linter.unusedVariables false
set_option linter.unusedSimpArgs false
def lsp0 : Nat → Option LSpec := fun _ => none
abbrev z7 : List DV := [.int .i64 0, .int .i64 0, .int .i64 0, .int .i64 0, .int .i64 0, .int .i64 0, .int .i64 0]
def I7 (n : Nat) (x : DV) : Prop := Sl 7 x ∧ (∀ e ∈ rowsA x, okRow z7 e = true) ∧ (rowsA x).length ≤ n
def idO (e : List DV) : Int := (cellA e 0).toI
def frm (e : List DV) : Int := (cellA e 1).toI
def cls (e : List DV) : Int := (cellA e 4).toI
def ahB (a b : List DV) : Bool := decide (frm a < frm b) || (decide (frm a = frm b) && decide (cls a ≤ cls b))
def fI (es : List (List DV)) (id : Int) : Int := match es with
  | [] => -1
  | e :: l => cond (idO e == id) 0 (cond (decide (fI l id < 0)) (-1) (fI l id + 1))
def fndS : FSpec where
  D ds := ∃ x id, ds = [x, .int .i64 id] ∧ I7 1000 x
  val ds := match ds with | [x, .int _ id] => some (.int .i64 (fI (rowsA x) id)) | _ => none
def S260 (x : DV) (id i : Int) : St := St.of [(0, .d x), (1, .d (.int .i64 id)), (5, .d (.int .i64 i))] []
def lF : LSpec := fun st => match st.env 0, st.env 1 with
  | .d x, .d (.int _ id) => .br (decide (fI (rowsA x) id < 0)) (.one (.ex 0) (St.of [] [])) (.one .ret (St.of [(4, .d (.int .i64 (fI (rowsA x) id)))] []))
  | .d x, .d (.func _ [.rptr [.int _ id] _]) => .br (decide (fI (rowsA x) id < 0)) (.one (.ex 0) (St.of [] [])) (.one .ret (St.of [(4, .d (.int .i64 (fI (rowsA x) id)))] []))
  | _, _ => .no
def lr (k : Nat) : Option LSpec := if k = 120 then some lF else none
def uniF (l : List (List DV)) : Nat → List (List DV) → Bool
  | _, [] => true
  | i, e :: es => (fI l (idO e) == ((i : Nat) : Int)) && uniF l (i + 1) es
/-- each ahead of the next -/
def sortB : List (List DV) → Bool
  | [] => true
  | [_] => true
  | a :: b :: l => ahB a b && sortB (b :: l)
def isP (l : List (List DV)) : Bool := uniF l 0 l && (decide (l.length ≤ 40) && sortB l)
def bhP (l : List (List DV)) (p : List DV) : Nat := (l.takeWhile fun e => ahB e p).length
def putE (l : List (List DV)) (p : List DV) : Int := cond (decide (0 ≤ fI l (idO p))) 6 (cond (decide (40 ≤ l.length)) 3 0)
def putL (l : List (List DV)) (p : List DV) : List (List DV) := cond (decide (0 ≤ fI l (idO p))) l (cond (decide (40 ≤ l.length)) l (l.take (bhP l p) ++ (p :: l.drop (bhP l p))))
def putS : FSpec where
  D ds := ∃ x p, ds = [x, .agg p] ∧ I7 1000 x ∧ okRow z7 p = true
  val ds := match ds with | [x, .agg p] => some (.tuple [.sla false 7 (putL (rowsA x) p), .int .i64 (putE (rowsA x) p)]) | _ => none
def isPS : FSpec where
  D ds := ∃ x, ds = [x] ∧ I7 1000 x
  val ds := match ds with | [x] => some (.bool (isP (rowsA x))) | _ => none
noncomputable def spG : FuncId → Option FSpec := spAdd 12 fndS noSp
def delB (es : List (List DV)) (i : Nat) : List (List DV) := es.take i ++ es.drop (i + 1)
def pay7 (e : List DV) : List DV := [.int .i64 (cellA e 0).toI, .int .i64 (cellA e 1).toI, .int .i64 (cellA e 2).toI, .int .i64 (cellA e 3).toI, .int .i64 (cellA e 4).toI, .int .i64 (cellA e 5).toI, .int .i64 (cellA e 6).toI]
def dropL (es : List (List DV)) (id : Int) : List (List DV) := cond (decide (fI es id < 0)) es (delB es (fI es id).toNat)
def dropP (es : List (List DV)) (id : Int) : List DV := cond (decide (fI es id < 0)) z7 ((es[(fI es id).toNat]?).getD z7)
def dropE (es : List (List DV)) (id : Int) : Int := cond (decide (fI es id < 0)) 4 0
def drpS : FSpec where
  D ds := ∃ x id, ds = [x, .int .i64 id] ∧ I7 1000 x
  val ds := match ds with | [x, .int _ id] => some (.tuple [.sla false 7 (dropL (rowsA x) id), .agg (pay7 (dropP (rowsA x) id)), .int .i64 (dropE (rowsA x) id)]) | _ => none
def ints (e : List DV) : List Int := e.map DV.toI
def sameP (a b : List (List DV)) : Bool := decide (a.map ints = b.map ints)
def samP : FSpec where
  D ds := ∃ x y, ds = [x, y] ∧ I7 1000 x ∧ I7 1000 y
  val ds := match ds with | [x, y] => some (.bool (sameP (rowsA x) (rowsA y))) | _ => none
def inB (es : List (List DV)) (i : Nat) (p : List DV) : List (List DV) := es.take i ++ (p :: es.drop i)
def inbS : FSpec where
  D ds := ∃ x i p, ds = [x, .int .i64 ((i : Nat) : Int), .agg p] ∧ I7 1000 x ∧ okRow z7 p = true ∧ i ≤ (rowsA x).length
  val ds := match ds with | [x, .int _ i, .agg p] => some (.sla false 7 (inB (rowsA x) i.toNat p)) | _ => none
def behS : FSpec where
  D ds := ∃ x p, ds = [x, .agg p] ∧ I7 1000 x ∧ okRow z7 p = true
  val ds := match ds with | [x, .agg p] => some (.int .i64 (bhP (rowsA x) p)) | _ => none
def S200 (x : DV) (i : Int) : St := St.of [(0, .d x), (3, .d (.int .i64 i))] []
def l200 : LSpec := fun st => match st.env 0 with
  | .d x => .br (uniF (rowsA x) 0 (rowsA x) && sortB (rowsA x)) (.one (.ex 0) (St.of [(0, .d x)] [])) (.one .ret (St.of [(2, .d (.bool false))] []))
  | _ => .no
def lp (k : Nat) : Option LSpec := if k = 160 then some l200 else none
def S270 (x y : DV) (i : Int) : St := St.of [(0, .d x), (1, .d y), (5, .d (.int .i64 i))] []
def l270 : LSpec := fun st => match st.env 0, st.env 1 with
  | .d x, .d y => .br (sameP (rowsA x) (rowsA y)) (.one (.ex 0) (St.of [] [])) (.one .ret (St.of [(4, .d (.bool false))] []))
  | _, _ => .no
def lg (k : Nat) : Option LSpec := if k = 150 then some l270 else none
def l450 : LSpec := fun st => match st.env 0, st.env 3 with
  | .d x, .d (.rptr p _) => .one (.ex 0) (St.of [(5, .d (.int .i64 (bhP (rowsA x) p)))] [])
  | _, _ => .no
def lo (k : Nat) : Option LSpec := if k = 330 then some l450 else none
def S450 (R : List (List DV)) (p : List DV) (i : Int) : St := St.of [(0, .d (.sla false 7 R)), (3, .d (.rptr p 0)), (5, .d (.int .i64 i))] [(3, none)]
noncomputable def spP7 : FuncId → Option FSpec := spAdd 12 fndS (spAdd 32 inbS (spAdd 33 behS noSp))
theorem rs260 (L n : Nat) (es : List (List DV)) (id : Int) (i : Nat) (k : Kont) : LB tab noSp lr L (n+4) h120 c12l0 (S260 (.sla false 7 es) id i) k =
   (bif decide ((↑i : Int) < (↑es.length : Int)) then
 lookK es[i]? fun (e1 : List DV) =>
 bif
 okRow
 [DV.int .i64 0, DV.int .i64 0, DV.int .i64 0, DV.int .i64 0, DV.int .i64 0, DV.int .i64 0, DV.int .i64 0]
 e1 then
 bif (cellA e1 0).toI == id then k Ex.ret (St.of [(4, AV.d (DV.int .i64 (↑i : Int)))] [])
 else
 k Ex.nrm
 (St.of
 [(0, AV.d (DV.sla false 7 es)), (1, AV.d (DV.int .i64 id)),
 ((5 : Nat), AV.d (DV.int .i64 (IntKind.i64.wrap ((↑i : Int) + (1 : Int)))))]
 [])
 else none
 else k (Ex.ex (0 : Nat)) (St.of [] [])) :=
  (show LB tab noSp lr L (n+4) h120 c12l0 (S260 (.sla false 7 es) id i) k =
 (cond (decide ((↑i : Int) < (↑es.length : Int)))
 (lookK (es[(↑i : Int).toNat]?)
 fun e1 =>
 (cond (okRow [DV.int .i64 0, DV.int .i64 0, DV.int .i64 0, DV.int .i64 0, DV.int .i64 0, DV.int .i64 0, DV.int .i64 0] e1)
 (cond ((cellA e1 0).toI == id)
 (k .ret (St.of [(4, (.d (.int .i64 ((↑i : Int)))))] []))
 (k .nrm (St.of [(0, (.d (.sla false 7 es))), (1, (.d (.int .i64 id))), (5, (.d (.int .i64 (IntKind.i64.wrap ((↑i : Int) + (1 : Int))))))] [])))
 none))
 (k (.ex 0) (St.of [] []))) from by kernel_rfl).trans (by first | rfl | (simp only [decide_true, decide_false, eq_self, and_true, true_and, and_self, cond_true, cond_false, Nat.le_refl, Int.le_refl, Option.getD_some, Option.getD_none, Int.toNat_natCast, List.take_length, List.drop_zero, Nat.zero_add, List.nil_append, List.all_nil, List.append_nil, Bool.true_and, Bool.and_true, rowsA_sla, rowsA_sl, rowsA_nil, minus_zero, nat_le_cast, nat_nonneg, Option.isSome_some, Option.isSome_none, Bool.false_eq_true, false_and, and_false, if_true, if_false, implies_true, Int.toNat_zero, Bool.not_false, Bool.not_true, bne_self_eq_false]; done) | (simp only [decide_true, decide_false, eq_self, and_true, true_and, and_self, cond_true, cond_false, Nat.le_refl, Int.le_refl, Option.getD_some, Option.getD_none, Int.toNat_natCast, List.take_length, List.drop_zero, Nat.zero_add, List.nil_append, List.all_nil, List.append_nil, Bool.true_and, Bool.and_true, rowsA_sla, rowsA_sl, rowsA_nil, minus_zero, nat_le_cast, nat_nonneg, Option.isSome_some, Option.isSome_none, Bool.false_eq_true, false_and, and_false, if_true, if_false, implies_true, Int.toNat_zero, Bool.not_false, Bool.not_true, bne_self_eq_false]; rfl))
theorem rt26 (L n : Nat) (es : List (List DV)) (id : Int) : FK tab noSp lr L (n+8) 12 [.sla false 7 es, .int .i64 id] =
   (bif decide (fI es id < (0 : Int)) then
 need
 (LoopOk (LB tab noSp lr L (n + (8 : Nat)) h120 c12l0)
 (St.of [(0, AV.d (DV.sla false 7 es)), (1, AV.d (DV.int .i64 id)), (5, AV.d (DV.int .i64 0))] [])
 (Ex.ex (0 : Nat), St.of [] []))
 (some (DV.int .i64 (-1 : Int)))
 else
 need
 (LoopOk (LB tab noSp lr L (n + (8 : Nat)) h120 c12l0)
 (St.of [(0, AV.d (DV.sla false 7 es)), (1, AV.d (DV.int .i64 id)), (5, AV.d (DV.int .i64 0))] [])
 (Ex.ret, St.of [(4, AV.d (DV.int .i64 (fI es id)))] []))
 (some (DV.int .i64 (fI es id)))) :=
  (show FK tab noSp lr L (n+8) 12 [.sla false 7 es, .int .i64 id] =
 (cond (decide (fI (rowsA (DV.sla false 7 es)) id < (0 : Int)))
 (need (LoopOk (LB tab noSp lr L (n + (8 : Nat)) h120 c12l0) (St.of [(0, (.d (.sla false 7 es))), (1, (.d (.int .i64 id))), (5, (.d (.int .i64 ((0 : Int)))))] []) ((.ex 0), (St.of [] [])))
 (some (.int .i64 ((-1 : Int)))))
 (need (LoopOk (LB tab noSp lr L (n + (8 : Nat)) h120 c12l0) (St.of [(0, (.d (.sla false 7 es))), (1, (.d (.int .i64 id))), (5, (.d (.int .i64 ((0 : Int)))))] []) (.ret, (St.of [(4, (.d (.int .i64 (fI (rowsA (DV.sla false 7 es)) id))))] [])))
 (some (.int .i64 (fI (rowsA (DV.sla false 7 es)) id))))) from by kernel_rfl).trans (by first | rfl | (simp only [decide_true, decide_false, eq_self, and_true, true_and, and_self, cond_true, cond_false, Nat.le_refl, Int.le_refl, Option.getD_some, Option.getD_none, Int.toNat_natCast, List.take_length, List.drop_zero, Nat.zero_add, List.nil_append, List.all_nil, List.append_nil, Bool.true_and, Bool.and_true, rowsA_sla, rowsA_sl, rowsA_nil, minus_zero, nat_le_cast, nat_nonneg, Option.isSome_some, Option.isSome_none, Bool.false_eq_true, false_and, and_false, if_true, if_false, implies_true, Int.toNat_zero, Bool.not_false, Bool.not_true, bne_self_eq_false]; done) | (simp only [decide_true, decide_false, eq_self, and_true, true_and, and_self, cond_true, cond_false, Nat.le_refl, Int.le_refl, Option.getD_some, Option.getD_none, Int.toNat_natCast, List.take_length, List.drop_zero, Nat.zero_add, List.nil_append, List.all_nil, List.append_nil, Bool.true_and, Bool.and_true, rowsA_sla, rowsA_sl, rowsA_nil, minus_zero, nat_le_cast, nat_nonneg, Option.isSome_some, Option.isSome_none, Bool.false_eq_true, false_and, and_false, if_true, if_false, implies_true, Int.toNat_zero, Bool.not_false, Bool.not_true, bne_self_eq_false]; rfl))
theorem rs200 (L n : Nat) (es : List (List DV)) (i : Nat) (k : Kont) : LB tab spG lp L (n+4) h160 c16l0 (S200 (.sla false 7 es) i) k =
   (bif decide ((↑i : Int) < (↑es.length : Int)) then
 lookK es[i]? fun (e1 : List DV) =>
 bif
 okRow
 [DV.int .i64 0, DV.int .i64 0, DV.int .i64 0, DV.int .i64 0, DV.int .i64 0, DV.int .i64 0, DV.int .i64 0]
 e1 then
 need (fndS.D [DV.sla false 7 es, DV.int .i64 (cellA e1 0).toI])
 (bif decide ((↑i : Int) > (0 : Int)) then
 bif fI es (cellA e1 0).toI != (↑i : Int) then k Ex.ret (St.of [(2, AV.d (DV.bool false))] [])
 else
 bif decide ((0 : Int) ≤ IntKind.i64.wrap ((↑i : Int) - (1 : Int))) then
 lookK es[(IntKind.i64.wrap ((↑i : Int) - (1 : Int))).toNat]? fun (e8 : List DV) =>
 bif
 okRow
 [DV.int .i64 0, DV.int .i64 0, DV.int .i64 0, DV.int .i64 0, DV.int .i64 0, DV.int .i64 0, DV.int .i64 0]
 e8 then
 lookK es[i]? fun (e11 : List DV) =>
 bif
 okRow
 [DV.int .i64 0, DV.int .i64 0, DV.int .i64 0, DV.int .i64 0, DV.int .i64 0, DV.int .i64 0, DV.int .i64 0]
 e11 then
 bif
 !bif decide ((cellA e8 1).toI < (cellA e11 1).toI) then true
 else
 bif (cellA e8 1).toI == (cellA e11 1).toI then decide ((cellA e8 4).toI ≤ (cellA e11 4).toI)
 else false then
 k Ex.ret (St.of [(2, AV.d (DV.bool false))] [])
 else
 k Ex.nrm
 (St.of
 [(0, AV.d (DV.sla false 7 es)),
 ((3 : Nat), AV.d (DV.int .i64 (IntKind.i64.wrap ((↑i : Int) + (1 : Int)))))]
 [])
 else none
 else none
 else none
 else
 bif bif fI es (cellA e1 0).toI != (↑i : Int) then true else false then k Ex.ret (St.of [(2, AV.d (DV.bool false))] [])
 else
 k Ex.nrm
 (St.of [(0, AV.d (DV.sla false 7 es)), (3, AV.d (DV.int .i64 (IntKind.i64.wrap ((↑i : Int) + (1 : Int)))))] []))
 else none
 else k (Ex.ex (0 : Nat)) (St.of [(0, AV.d (DV.sla false 7 es))] [])) :=
  (show LB tab spG lp L (n+4) h160 c16l0 (S200 (.sla false 7 es) i) k =
 (cond (decide ((↑i : Int) < (↑es.length : Int)))
 (lookK (es[(↑i : Int).toNat]?)
 fun e1 =>
 (cond (okRow [DV.int .i64 0, DV.int .i64 0, DV.int .i64 0, DV.int .i64 0, DV.int .i64 0, DV.int .i64 0, DV.int .i64 0] e1)
 (need (FSpec.D (fndS) [(.sla false 7 es), (.int .i64 ((cellA e1 0).toI))])
 (cond (decide ((↑i : Int) > (0 : Int)))
 (cond (fI (rowsA (DV.sla false 7 es)) (cellA e1 0).toI != (↑i : Int))
 (k .ret (St.of [(2, (.d (.bool false)))] []))
 (cond (decide ((0 : Int) ≤ IntKind.i64.wrap ((↑i : Int) - (1 : Int))))
 (lookK (es[(IntKind.i64.wrap ((↑i : Int) - (1 : Int))).toNat]?)
 fun e8 =>
 (cond (okRow [DV.int .i64 0, DV.int .i64 0, DV.int .i64 0, DV.int .i64 0, DV.int .i64 0, DV.int .i64 0, DV.int .i64 0] e8)
 (lookK (es[(↑i : Int).toNat]?)
 fun e11 =>
 (cond (okRow [DV.int .i64 0, DV.int .i64 0, DV.int .i64 0, DV.int .i64 0, DV.int .i64 0, DV.int .i64 0, DV.int .i64 0] e11)
 (cond (!bif decide ((cellA e8 1).toI < (cellA e11 1).toI) then true else bif (cellA e8 1).toI == (cellA e11 1).toI then decide ((cellA e8 4).toI ≤ (cellA e11 4).toI) else false)
 (k .ret (St.of [(2, (.d (.bool false)))] []))
 (k .nrm (St.of [(0, (.d (.sla false 7 es))), (3, (.d (.int .i64 (IntKind.i64.wrap ((↑i : Int) + (1 : Int))))))] [])))
 none))
 none))
 none))
 (cond (bif fI (rowsA (DV.sla false 7 es)) (cellA e1 0).toI != (↑i : Int) then true else false)
 (k .ret (St.of [(2, (.d (.bool false)))] []))
 (k .nrm (St.of [(0, (.d (.sla false 7 es))), (3, (.d (.int .i64 (IntKind.i64.wrap ((↑i : Int) + (1 : Int))))))] [])))))
 none))
 (k (.ex 0) (St.of [(0, (.d (.sla false 7 es)))] []))) from by kernel_rfl).trans (by first | rfl | (simp only [decide_true, decide_false, eq_self, and_true, true_and, and_self, cond_true, cond_false, Nat.le_refl, Int.le_refl, Option.getD_some, Option.getD_none, Int.toNat_natCast, List.take_length, List.drop_zero, Nat.zero_add, List.nil_append, List.all_nil, List.append_nil, Bool.true_and, Bool.and_true, rowsA_sla, rowsA_sl, rowsA_nil, minus_zero, nat_le_cast, nat_nonneg, Option.isSome_some, Option.isSome_none, Bool.false_eq_true, false_and, and_false, if_true, if_false, implies_true, Int.toNat_zero, Bool.not_false, Bool.not_true, bne_self_eq_false]; done) | (simp only [decide_true, decide_false, eq_self, and_true, true_and, and_self, cond_true, cond_false, Nat.le_refl, Int.le_refl, Option.getD_some, Option.getD_none, Int.toNat_natCast, List.take_length, List.drop_zero, Nat.zero_add, List.nil_append, List.all_nil, List.append_nil, Bool.true_and, Bool.and_true, rowsA_sla, rowsA_sl, rowsA_nil, minus_zero, nat_le_cast, nat_nonneg, Option.isSome_some, Option.isSome_none, Bool.false_eq_true, false_and, and_false, if_true, if_false, implies_true, Int.toNat_zero, Bool.not_false, Bool.not_true, bne_self_eq_false]; rfl))
theorem rt20 (L n : Nat) (es : List (List DV)) : FK tab spG lp L (n+8) 16 [.sla false 7 es] =
   (bif uniF es (0 : Nat) es && sortB es then
 need
 (LoopOk (LB tab spG lp L (n + (8 : Nat)) h160 c16l0)
 (St.of [(0, AV.d (DV.sla false 7 es)), (3, AV.d (DV.int .i64 0))] [])
 (Ex.ex (0 : Nat), St.of [(0, AV.d (DV.sla false 7 es))] []))
 (some (DV.bool (decide ((↑es.length : Int) ≤ (40 : Int)))))
 else
 need
 (LoopOk (LB tab spG lp L (n + (8 : Nat)) h160 c16l0)
 (St.of [(0, AV.d (DV.sla false 7 es)), (3, AV.d (DV.int .i64 0))] [])
 (Ex.ret, St.of [(2, AV.d (DV.bool false))] []))
 (some (DV.bool false))) :=
  (show FK tab spG lp L (n+8) 16 [.sla false 7 es] =
 (cond (uniF (rowsA (DV.sla false 7 es)) (0 : Nat) (rowsA (DV.sla false 7 es)) && sortB (rowsA (DV.sla false 7 es)))
 (need (LoopOk (LB tab spG lp L (n + (8 : Nat)) h160 c16l0) (St.of [(0, (.d (.sla false 7 es))), (3, (.d (.int .i64 ((0 : Int)))))] []) ((.ex 0), (St.of [(0, (.d (.sla false 7 es)))] [])))
 (some (.bool (decide ((↑es.length : Int) ≤ (40 : Int))))))
 (need (LoopOk (LB tab spG lp L (n + (8 : Nat)) h160 c16l0) (St.of [(0, (.d (.sla false 7 es))), (3, (.d (.int .i64 ((0 : Int)))))] []) (.ret, (St.of [(2, (.d (.bool false)))] [])))
 (some (.bool false)))) from by kernel_rfl).trans (by first | rfl | (simp only [decide_true, decide_false, eq_self, and_true, true_and, and_self, cond_true, cond_false, Nat.le_refl, Int.le_refl, Option.getD_some, Option.getD_none, Int.toNat_natCast, List.take_length, List.drop_zero, Nat.zero_add, List.nil_append, List.all_nil, List.append_nil, Bool.true_and, Bool.and_true, rowsA_sla, rowsA_sl, rowsA_nil, minus_zero, nat_le_cast, nat_nonneg, Option.isSome_some, Option.isSome_none, Bool.false_eq_true, false_and, and_false, if_true, if_false, implies_true, Int.toNat_zero, Bool.not_false, Bool.not_true, bne_self_eq_false]; done) | (simp only [decide_true, decide_false, eq_self, and_true, true_and, and_self, cond_true, cond_false, Nat.le_refl, Int.le_refl, Option.getD_some, Option.getD_none, Int.toNat_natCast, List.take_length, List.drop_zero, Nat.zero_add, List.nil_append, List.all_nil, List.append_nil, Bool.true_and, Bool.and_true, rowsA_sla, rowsA_sl, rowsA_nil, minus_zero, nat_le_cast, nat_nonneg, Option.isSome_some, Option.isSome_none, Bool.false_eq_true, false_and, and_false, if_true, if_false, implies_true, Int.toNat_zero, Bool.not_false, Bool.not_true, bne_self_eq_false]; rfl))
theorem rs270 (L n : Nat) (es es2 : List (List DV)) (i : Nat) (k : Kont) : LB tab noSp lg L (n+4) h150 c15l0 (S270 (.sla false 7 es) (.sla false 7 es2) i) k =
   (bif decide ((↑i : Int) < (↑es.length : Int)) then
 lookK es[i]? fun (e1 : List DV) =>
 bif
 okRow
 [DV.int .i64 0, DV.int .i64 0, DV.int .i64 0, DV.int .i64 0, DV.int .i64 0, DV.int .i64 0, DV.int .i64 0]
 e1 then
 lookK es2[i]? fun (e4 : List DV) =>
 bif
 okRow
 [DV.int .i64 0, DV.int .i64 0, DV.int .i64 0, DV.int .i64 0, DV.int .i64 0, DV.int .i64 0, DV.int .i64 0]
 e4 then
 bif
 !((cellA e1 0).toI == (cellA e4 0).toI &&
 ((cellA e1 1).toI == (cellA e4 1).toI &&
 ((cellA e1 2).toI == (cellA e4 2).toI &&
 ((cellA e1 3).toI == (cellA e4 3).toI &&
 ((cellA e1 4).toI == (cellA e4 4).toI &&
 ((cellA e1 5).toI == (cellA e4 5).toI && (cellA e1 6).toI == (cellA e4 6).toI)))))) then
 k Ex.ret (St.of [(4, AV.d (DV.bool false))] [])
 else
 k Ex.nrm
 (St.of
 [(0, AV.d (DV.sla false 7 es)), (1, AV.d (DV.sla false 7 es2)),
 ((5 : Nat), AV.d (DV.int .i64 (IntKind.i64.wrap ((↑i : Int) + (1 : Int)))))]
 [])
 else none
 else none
 else k (Ex.ex (0 : Nat)) (St.of [] [])) :=
  (show LB tab noSp lg L (n+4) h150 c15l0 (S270 (.sla false 7 es) (.sla false 7 es2) i) k =
 (cond (decide ((↑i : Int) < (↑es.length : Int)))
 (lookK (es[(↑i : Int).toNat]?)
 fun e1 =>
 (cond (okRow [DV.int .i64 0, DV.int .i64 0, DV.int .i64 0, DV.int .i64 0, DV.int .i64 0, DV.int .i64 0, DV.int .i64 0] e1)
 (lookK (es2[(↑i : Int).toNat]?)
 fun e4 =>
 (cond (okRow [DV.int .i64 0, DV.int .i64 0, DV.int .i64 0, DV.int .i64 0, DV.int .i64 0, DV.int .i64 0, DV.int .i64 0] e4)
 (cond (!((cellA e1 0).toI == (cellA e4 0).toI && ((cellA e1 1).toI == (cellA e4 1).toI && ((cellA e1 2).toI == (cellA e4 2).toI && ((cellA e1 3).toI == (cellA e4 3).toI && ((cellA e1 4).toI == (cellA e4 4).toI && ((cellA e1 5).toI == (cellA e4 5).toI && ((cellA e1 6).toI == (cellA e4 6).toI && true))))))))
 (k .ret (St.of [(4, (.d (.bool false)))] []))
 (k .nrm (St.of [(0, (.d (.sla false 7 es))), (1, (.d (.sla false 7 es2))), (5, (.d (.int .i64 (IntKind.i64.wrap ((↑i : Int) + (1 : Int))))))] [])))
 none))
 none))
 (k (.ex 0) (St.of [] []))) from by kernel_rfl).trans (by first | rfl | (simp only [decide_true, decide_false, eq_self, and_true, true_and, and_self, cond_true, cond_false, Nat.le_refl, Int.le_refl, Option.getD_some, Option.getD_none, Int.toNat_natCast, List.take_length, List.drop_zero, Nat.zero_add, List.nil_append, List.all_nil, List.append_nil, Bool.true_and, Bool.and_true, rowsA_sla, rowsA_sl, rowsA_nil, minus_zero, nat_le_cast, nat_nonneg, Option.isSome_some, Option.isSome_none, Bool.false_eq_true, false_and, and_false, if_true, if_false, implies_true, Int.toNat_zero, Bool.not_false, Bool.not_true, bne_self_eq_false]; done) | (simp only [decide_true, decide_false, eq_self, and_true, true_and, and_self, cond_true, cond_false, Nat.le_refl, Int.le_refl, Option.getD_some, Option.getD_none, Int.toNat_natCast, List.take_length, List.drop_zero, Nat.zero_add, List.nil_append, List.all_nil, List.append_nil, Bool.true_and, Bool.and_true, rowsA_sla, rowsA_sl, rowsA_nil, minus_zero, nat_le_cast, nat_nonneg, Option.isSome_some, Option.isSome_none, Bool.false_eq_true, false_and, and_false, if_true, if_false, implies_true, Int.toNat_zero, Bool.not_false, Bool.not_true, bne_self_eq_false]; rfl))
theorem rt27 (L n : Nat) (es es2 : List (List DV)) : FK tab noSp lg L (n+8) 15 [.sla false 7 es, .sla false 7 es2] =
   (bif (↑es.length : Int) != (↑es2.length : Int) then some (DV.bool false)
 else
 bif sameP es es2 then
 need
 (LoopOk (LB tab noSp lg L (n + (8 : Nat)) h150 c15l0)
 (St.of
 [(0, AV.d (DV.sla false 7 es)), (1, AV.d (DV.sla false 7 es2)), (5, AV.d (DV.int .i64 0))]
 [])
 (Ex.ex (0 : Nat), St.of [] []))
 (some (DV.bool true))
 else
 need
 (LoopOk (LB tab noSp lg L (n + (8 : Nat)) h150 c15l0)
 (St.of
 [(0, AV.d (DV.sla false 7 es)), (1, AV.d (DV.sla false 7 es2)), (5, AV.d (DV.int .i64 0))]
 [])
 (Ex.ret, St.of [(4, AV.d (DV.bool false))] []))
 (some (DV.bool false))) :=
  (show FK tab noSp lg L (n+8) 15 [.sla false 7 es, .sla false 7 es2] =
 (cond ((↑es.length : Int) != (↑es2.length : Int))
 (some (.bool false))
 (cond (sameP (rowsA (DV.sla false 7 es)) (rowsA (DV.sla false 7 es2)))
 (need (LoopOk (LB tab noSp lg L (n + (8 : Nat)) h150 c15l0) (St.of [(0, (.d (.sla false 7 es))), (1, (.d (.sla false 7 es2))), (5, (.d (.int .i64 ((0 : Int)))))] []) ((.ex 0), (St.of [] [])))
 (some (.bool true)))
 (need (LoopOk (LB tab noSp lg L (n + (8 : Nat)) h150 c15l0) (St.of [(0, (.d (.sla false 7 es))), (1, (.d (.sla false 7 es2))), (5, (.d (.int .i64 ((0 : Int)))))] []) (.ret, (St.of [(4, (.d (.bool false)))] [])))
 (some (.bool false))))) from by kernel_rfl).trans (by first | rfl | (simp only [decide_true, decide_false, eq_self, and_true, true_and, and_self, cond_true, cond_false, Nat.le_refl, Int.le_refl, Option.getD_some, Option.getD_none, Int.toNat_natCast, List.take_length, List.drop_zero, Nat.zero_add, List.nil_append, List.all_nil, List.append_nil, Bool.true_and, Bool.and_true, rowsA_sla, rowsA_sl, rowsA_nil, minus_zero, nat_le_cast, nat_nonneg, Option.isSome_some, Option.isSome_none, Bool.false_eq_true, false_and, and_false, if_true, if_false, implies_true, Int.toNat_zero, Bool.not_false, Bool.not_true, bne_self_eq_false]; done) | (simp only [decide_true, decide_false, eq_self, and_true, true_and, and_self, cond_true, cond_false, Nat.le_refl, Int.le_refl, Option.getD_some, Option.getD_none, Int.toNat_natCast, List.take_length, List.drop_zero, Nat.zero_add, List.nil_append, List.all_nil, List.append_nil, Bool.true_and, Bool.and_true, rowsA_sla, rowsA_sl, rowsA_nil, minus_zero, nat_le_cast, nat_nonneg, Option.isSome_some, Option.isSome_none, Bool.false_eq_true, false_and, and_false, if_true, if_false, implies_true, Int.toNat_zero, Bool.not_false, Bool.not_true, bne_self_eq_false]; rfl))
theorem rs450 (L n : Nat) (R : List (List DV)) (a0 a1 a2 a3 a4 a5 a6 : Int) (i : Nat) (k : Kont) : LB tab noSp lo (L+4) (n+4) h330 c33l0 (S450 R [.int .i64 a0, .int .i64 a1, .int .i64 a2, .int .i64 a3, .int .i64 a4, .int .i64 a5, .int .i64 a6] i) k =
   (bif decide ((↑i : Int) < (↑R.length : Int)) then
 lookK R[i]? fun (e1 : List DV) =>
 bif
 okRow
 [DV.int .i64 0, DV.int .i64 0, DV.int .i64 0, DV.int .i64 0, DV.int .i64 0, DV.int .i64 0, DV.int .i64 0]
 e1 then
 bif
 bif decide ((cellA e1 1).toI < a1) then true
 else bif (cellA e1 1).toI == a1 then decide ((cellA e1 4).toI ≤ a4) else false then
 k Ex.nrm
 (St.of
 [(0, AV.d (DV.sla false 7 R)),
 ((3 : Nat),
 AV.d
 (DV.rptr
 [DV.int .i64 a0, DV.int .i64 a1, DV.int .i64 a2, DV.int .i64 a3, DV.int .i64 a4, DV.int .i64 a5, DV.int .i64 a6]
 (0 : Nat))),
 ((5 : Nat), AV.d (DV.int .i64 (IntKind.i64.wrap ((↑i : Int) + (1 : Int)))))]
 [(3, none)])
 else k (Ex.ex (0 : Nat)) (St.of [(5, AV.d (DV.int .i64 (↑i : Int)))] [])
 else none
 else k (Ex.ex (0 : Nat)) (St.of [(5, AV.d (DV.int .i64 (↑i : Int)))] [])) :=
  (show LB tab noSp lo (L+4) (n+4) h330 c33l0 (S450 R [.int .i64 a0, .int .i64 a1, .int .i64 a2, .int .i64 a3, .int .i64 a4, .int .i64 a5, .int .i64 a6] i) k =
 (cond (decide ((↑i : Int) < (↑R.length : Int)))
 (lookK (R[(↑i : Int).toNat]?)
 fun e1 =>
 (cond (okRow [DV.int .i64 0, DV.int .i64 0, DV.int .i64 0, DV.int .i64 0, DV.int .i64 0, DV.int .i64 0, DV.int .i64 0] e1)
 (cond (bif decide ((cellA e1 1).toI < a1) then true else bif (cellA e1 1).toI == a1 then decide ((cellA e1 4).toI ≤ a4) else false)
 (k .nrm (St.of [(0, (.d (.sla false 7 R))), (3, (.d (.rptr [(.int .i64 a0), (.int .i64 a1), (.int .i64 a2), (.int .i64 a3), (.int .i64 a4), (.int .i64 a5), (.int .i64 a6)] 0))), (5, (.d (.int .i64 (IntKind.i64.wrap ((↑i : Int) + (1 : Int))))))] [(3, .none)]))
 (k (.ex 0) (St.of [(5, (.d (.int .i64 ((↑i : Int)))))] [])))
 none))
 (k (.ex 0) (St.of [(5, (.d (.int .i64 ((↑i : Int)))))] []))) from by kernel_rfl).trans (by first | rfl | (simp only [decide_true, decide_false, eq_self, and_true, true_and, and_self, cond_true, cond_false, Nat.le_refl, Int.le_refl, Option.getD_some, Option.getD_none, Int.toNat_natCast, List.take_length, List.drop_zero, Nat.zero_add, List.nil_append, List.all_nil, List.append_nil, Bool.true_and, Bool.and_true, rowsA_sla, rowsA_sl, rowsA_nil, minus_zero, nat_le_cast, nat_nonneg, Option.isSome_some, Option.isSome_none, Bool.false_eq_true, false_and, and_false, if_true, if_false, implies_true, Int.toNat_zero, Bool.not_false, Bool.not_true, bne_self_eq_false]; done) | (simp only [decide_true, decide_false, eq_self, and_true, true_and, and_self, cond_true, cond_false, Nat.le_refl, Int.le_refl, Option.getD_some, Option.getD_none, Int.toNat_natCast, List.take_length, List.drop_zero, Nat.zero_add, List.nil_append, List.all_nil, List.append_nil, Bool.true_and, Bool.and_true, rowsA_sla, rowsA_sl, rowsA_nil, minus_zero, nat_le_cast, nat_nonneg, Option.isSome_some, Option.isSome_none, Bool.false_eq_true, false_and, and_false, if_true, if_false, implies_true, Int.toNat_zero, Bool.not_false, Bool.not_true, bne_self_eq_false]; rfl))
theorem rt45 (L n : Nat) (es : List (List DV)) (a0 a1 a2 a3 a4 a5 a6 : Int) : FK tab noSp lo L (n+8) 33 [.sla false 7 es, .agg [.int .i64 a0, .int .i64 a1, .int .i64 a2, .int .i64 a3, .int .i64 a4, .int .i64 a5, .int .i64 a6]] =
   (need
 (LoopOk (LB tab noSp lo L (n + (8 : Nat)) h330 c33l0)
 (St.of
 [(0, AV.d (DV.sla false 7 es)),
 ((3 : Nat),
 AV.d
 (DV.rptr
 [DV.int .i64 a0, DV.int .i64 a1, DV.int .i64 a2, DV.int .i64 a3, DV.int .i64 a4, DV.int .i64 a5, DV.int .i64 a6]
 (0 : Nat))),
 ((5 : Nat), AV.d (DV.int .i64 0))]
 [(3, none)])
 (Ex.ex (0 : Nat),
 St.of
 [((5 : Nat),
 AV.d
 (DV.int .i64
 (↑(bhP es
 [DV.int .i64 a0, DV.int .i64 a1, DV.int .i64 a2, DV.int .i64 a3, DV.int .i64 a4, DV.int .i64 a5, DV.int .i64 a6]) :
 Int)))]
 []))
 (some
 (DV.int .i64
 (↑(bhP es
 [DV.int .i64 a0, DV.int .i64 a1, DV.int .i64 a2, DV.int .i64 a3, DV.int .i64 a4, DV.int .i64 a5, DV.int .i64 a6]) :
 Int)))) :=
  (show FK tab noSp lo L (n+8) 33 [.sla false 7 es, .agg [.int .i64 a0, .int .i64 a1, .int .i64 a2, .int .i64 a3, .int .i64 a4, .int .i64 a5, .int .i64 a6]] =
 (need (LoopOk (LB tab noSp lo L (n + (8 : Nat)) h330 c33l0) (St.of [(0, (.d (.sla false 7 es))), (3, (.d (.rptr [(.int .i64 a0), (.int .i64 a1), (.int .i64 a2), (.int .i64 a3), (.int .i64 a4), (.int .i64 a5), (.int .i64 a6)] 0))), (5, (.d (.int .i64 ((0 : Int)))))] [(3, .none)]) ((.ex 0), (St.of [(5, (.d (.int .i64 ((↑(bhP (rowsA (DV.sla false 7 es)) [DV.int .i64 a0, DV.int .i64 a1, DV.int .i64 a2, DV.int .i64 a3, DV.int .i64 a4, DV.int .i64 a5, DV.int .i64 a6]) : Int)))))] [])))
 (some (.int .i64 ((↑(bhP (rowsA (DV.sla false 7 es)) [DV.int .i64 a0, DV.int .i64 a1, DV.int .i64 a2, DV.int .i64 a3, DV.int .i64 a4, DV.int .i64 a5, DV.int .i64 a6]) : Int))))) from by kernel_rfl).trans (by first | rfl | (simp only [decide_true, decide_false, eq_self, and_true, true_and, and_self, cond_true, cond_false, Nat.le_refl, Int.le_refl, Option.getD_some, Option.getD_none, Int.toNat_natCast, List.take_length, List.drop_zero, Nat.zero_add, List.nil_append, List.all_nil, List.append_nil, Bool.true_and, Bool.and_true, rowsA_sla, rowsA_sl, rowsA_nil, minus_zero, nat_le_cast, nat_nonneg, Option.isSome_some, Option.isSome_none, Bool.false_eq_true, false_and, and_false, if_true, if_false, implies_true, Int.toNat_zero, Bool.not_false, Bool.not_true, bne_self_eq_false]; done) | (simp only [decide_true, decide_false, eq_self, and_true, true_and, and_self, cond_true, cond_false, Nat.le_refl, Int.le_refl, Option.getD_some, Option.getD_none, Int.toNat_natCast, List.take_length, List.drop_zero, Nat.zero_add, List.nil_append, List.all_nil, List.append_nil, Bool.true_and, Bool.and_true, rowsA_sla, rowsA_sl, rowsA_nil, minus_zero, nat_le_cast, nat_nonneg, Option.isSome_some, Option.isSome_none, Bool.false_eq_true, false_and, and_false, if_true, if_false, implies_true, Int.toNat_zero, Bool.not_false, Bool.not_true, bne_self_eq_false]; rfl))
theorem rt44 (L n : Nat) (es : List (List DV)) (i a0 a1 a2 a3 a4 a5 a6 : Int) : FK tab noSp lo L (n+8) 32 [.sla false 7 es, .int .i64 i, .agg [.int .i64 a0, .int .i64 a1, .int .i64 a2, .int .i64 a3, .int .i64 a4, .int .i64 a5, .int .i64 a6]] =
   (bif decide ((0 : Int) ≤ i) then
 bif decide (i ≤ (↑es.length : Int)) then
 bif decide ((List.take i.toNat es).length = (0 : Nat)) then
 bif decide ((0 : Int) ≤ i) then
 bif decide (i ≤ (↑es.length : Int)) then
 bif decide ((List.drop i.toNat es).length = (0 : Nat)) then
 some
 (DV.sl (SK.own (27 : Nat)) (7 : Nat)
 [[DV.int .i64 a0, DV.int .i64 a1, DV.int .i64 a2, DV.int .i64 a3, DV.int .i64 a4, DV.int .i64 a5, DV.int .i64 a6]])
 else
 bif (List.drop i.toNat es).all fun (e : List DV) => e.length == (7 : Nat) && e.all DV.one then
 bif decide (((List.drop i.toNat es).length + (1 : Nat)) * (56 : Nat) ≤ room ∧ (List.drop i.toNat es).length + (1 : Nat) ≤ room) then
 some
 (DV.sl (SK.own (27 : Nat)) (7 : Nat)
 ([DV.int .i64 a0, DV.int .i64 a1, DV.int .i64 a2, DV.int .i64 a3, DV.int .i64 a4, DV.int .i64 a5, DV.int .i64 a6] ::
 List.drop i.toNat es))
 else none
 else none
 else none
 else none
 else
 bif (List.take i.toNat es).all fun (e : List DV) => e.length == (7 : Nat) && e.all DV.one then
 bif decide ((List.take i.toNat es).length * (56 : Nat) ≤ room ∧ (List.take i.toNat es).length ≤ room) then
 bif
 decide
 ((List.take i.toNat es ++
 [[DV.int .i64 a0, DV.int .i64 a1, DV.int .i64 a2, DV.int .i64 a3, DV.int .i64 a4, DV.int .i64 a5, DV.int .i64 a6]]).length *
 (56 : Nat) ≤
 room ∧
 (List.take i.toNat es ++
 [[DV.int .i64 a0, DV.int .i64 a1, DV.int .i64 a2, DV.int .i64 a3, DV.int .i64 a4, DV.int .i64 a5, DV.int .i64 a6]]).length ≤
 room) then
 bif decide ((0 : Int) ≤ i) then
 bif decide (i ≤ (↑es.length : Int)) then
 bif decide ((List.drop i.toNat es).length = (0 : Nat)) then
 some
 (DV.sl (SK.own (27 : Nat)) (7 : Nat)
 (List.take i.toNat es ++
 [[DV.int .i64 a0, DV.int .i64 a1, DV.int .i64 a2, DV.int .i64 a3, DV.int .i64 a4, DV.int .i64 a5, DV.int .i64 a6]]))
 else
 bif (List.drop i.toNat es).all fun (e : List DV) => e.length == (7 : Nat) && e.all DV.one then
 bif
 decide
 ((List.take i.toNat es ++
 [[DV.int .i64 a0, DV.int .i64 a1, DV.int .i64 a2, DV.int .i64 a3, DV.int .i64 a4, DV.int .i64 a5, DV.int .i64 a6]] ++
 List.drop i.toNat es).length *
 (56 : Nat) ≤
 room ∧
 (List.take i.toNat es ++
 [[DV.int .i64 a0, DV.int .i64 a1, DV.int .i64 a2, DV.int .i64 a3, DV.int .i64 a4, DV.int .i64 a5, DV.int .i64 a6]] ++
 List.drop i.toNat es).length ≤
 room) then
 some
 (DV.sl (SK.own (27 : Nat)) (7 : Nat)
 (List.take i.toNat es ++
 [[DV.int .i64 a0, DV.int .i64 a1, DV.int .i64 a2, DV.int .i64 a3, DV.int .i64 a4, DV.int .i64 a5, DV.int .i64 a6]] ++
 List.drop i.toNat es))
 else none
 else none
 else none
 else none
 else none
 else none
 else none
 else none
 else none) :=
  (show FK tab noSp lo L (n+8) 32 [.sla false 7 es, .int .i64 i, .agg [.int .i64 a0, .int .i64 a1, .int .i64 a2, .int .i64 a3, .int .i64 a4, .int .i64 a5, .int .i64 a6]] =
 (cond (decide (none.getD (0 : Int) ≤ (some i).getD (↑es.length : Int)))
 (cond (decide ((some i).getD (↑es.length : Int) ≤ (↑es.length : Int)))
 (cond (decide ((List.drop (none.getD (0 : Int)).toNat (List.take ((some i).getD (↑es.length : Int)).toNat es)).length = (0 : Nat)))
 (cond (decide ((0 : Int) ≤ (some i).getD (0 : Int)))
 (cond (decide ((some i).getD (0 : Int) ≤ none.getD (↑es.length : Int)))
 (cond (decide (none.getD (↑es.length : Int) ≤ (↑es.length : Int)))
 (cond (decide ((List.drop ((some i).getD (0 : Int)).toNat (List.take (none.getD (↑es.length : Int)).toNat es)).length = (0 : Nat)))
 (some (.sl (SK.own (27 : Nat)) 7 [[(.int .i64 a0), (.int .i64 a1), (.int .i64 a2), (.int .i64 a3), (.int .i64 a4), (.int .i64 a5), (.int .i64 a6)]]))
 (cond ((List.drop ((some i).getD (0 : Int)).toNat (List.take (none.getD (↑es.length : Int)).toNat es)).all fun (e : List DV) => e.length == (7 : Nat) && e.all DV.one)
 (cond (decide ((27 : Nat) = (27 : Nat) ∧ (7 : Nat) = (7 : Nat) ∧ (7 : Nat) = (7 : Nat) ∧ (0 : Nat) = (0 : Nat) ∧ (1 : Nat) = (1 : Nat) ∧ ((List.drop ((some i).getD (0 : Int)).toNat (List.take (none.getD (↑es.length : Int)).toNat es)).length + (1 : Nat)) * (56 : Nat) ≤ room ∧ (List.drop ((some i).getD (0 : Int)).toNat (List.take (none.getD (↑es.length : Int)).toNat es)).length + (1 : Nat) ≤ room))
 (cond (decide ((List.drop ((some i).getD (0 : Int)).toNat (List.take (none.getD (↑es.length : Int)).toNat es)).length + (1 : Nat) = (List.drop ((some i).getD (0 : Int)).toNat (List.take (none.getD (↑es.length : Int)).toNat es)).length + (1 : Nat)))
 (some (.sl (SK.own (27 : Nat)) 7 ([DV.int .i64 a0, DV.int .i64 a1, DV.int .i64 a2, DV.int .i64 a3, DV.int .i64 a4, DV.int .i64 a5, DV.int .i64 a6] :: List.drop ((some i).getD (0 : Int)).toNat (List.take (none.getD (↑es.length : Int)).toNat es))))
 (cond (decide ((0 : Nat) + ((List.drop ((some i).getD (0 : Int)).toNat (List.take (none.getD (↑es.length : Int)).toNat es)).length + (1 : Nat)) ≤ (List.drop ((some i).getD (0 : Int)).toNat (List.take (none.getD (↑es.length : Int)).toNat es)).length + (1 : Nat)))
 (some (.sl (SK.ro) 7 ([DV.int .i64 a0, DV.int .i64 a1, DV.int .i64 a2, DV.int .i64 a3, DV.int .i64 a4, DV.int .i64 a5, DV.int .i64 a6] :: List.take (List.drop ((some i).getD (0 : Int)).toNat (List.take (none.getD (↑es.length : Int)).toNat es)).length (List.drop ((some i).getD (0 : Int)).toNat (List.take (none.getD (↑es.length : Int)).toNat es)))))
 none))
 none)
 none))
 none)
 none)
 none)
 (cond ((List.drop (none.getD (0 : Int)).toNat (List.take ((some i).getD (↑es.length : Int)).toNat es)).all fun (e : List DV) => e.length == (7 : Nat) && e.all DV.one)
 (cond (decide ((7 : Nat) = (7 : Nat) ∧ (List.drop (none.getD (0 : Int)).toNat (List.take ((some i).getD (↑es.length : Int)).toNat es)).length * (56 : Nat) ≤ room ∧ (List.drop (none.getD (0 : Int)).toNat (List.take ((some i).getD (↑es.length : Int)).toNat es)).length ≤ room ∧ ([].all fun (e : List DV) => e.length == (7 : Nat) && e.all DV.one) = true))
 (cond (decide ((27 : Nat) = (27 : Nat) ∧ (7 : Nat) = (7 : Nat) ∧ (7 : Nat) = (7 : Nat) ∧ (0 : Nat) = (0 : Nat) ∧ (List.drop (none.getD (0 : Int)).toNat (List.take ((some i).getD (↑es.length : Int)).toNat es)).length = (List.drop (none.getD (0 : Int)).toNat (List.take ((some i).getD (↑es.length : Int)).toNat es)).length ∧ (List.drop (none.getD (0 : Int)).toNat (List.take ((some i).getD (↑es.length : Int)).toNat es) ++ [[DV.int .i64 a0, DV.int .i64 a1, DV.int .i64 a2, DV.int .i64 a3, DV.int .i64 a4, DV.int .i64 a5, DV.int .i64 a6]]).length * (56 : Nat) ≤ room ∧ (List.drop (none.getD (0 : Int)).toNat (List.take ((some i).getD (↑es.length : Int)).toNat es) ++ [[DV.int .i64 a0, DV.int .i64 a1, DV.int .i64 a2, DV.int .i64 a3, DV.int .i64 a4, DV.int .i64 a5, DV.int .i64 a6]]).length ≤ room))
 (cond (decide ((0 : Int) ≤ (some i).getD (0 : Int)))
 (cond (decide ((some i).getD (0 : Int) ≤ none.getD (↑es.length : Int)))
 (cond (decide (none.getD (↑es.length : Int) ≤ (↑es.length : Int)))
 (cond (decide ((List.drop ((some i).getD (0 : Int)).toNat (List.take (none.getD (↑es.length : Int)).toNat es)).length = (0 : Nat)))
 (cond (decide ((List.drop (none.getD (0 : Int)).toNat (List.take ((some i).getD (↑es.length : Int)).toNat es) ++ [[DV.int .i64 a0, DV.int .i64 a1, DV.int .i64 a2, DV.int .i64 a3, DV.int .i64 a4, DV.int .i64 a5, DV.int .i64 a6]]).length = (List.drop (none.getD (0 : Int)).toNat (List.take ((some i).getD (↑es.length : Int)).toNat es) ++ [[DV.int .i64 a0, DV.int .i64 a1, DV.int .i64 a2, DV.int .i64 a3, DV.int .i64 a4, DV.int .i64 a5, DV.int .i64 a6]]).length))
 (some (.sl (SK.own (27 : Nat)) 7 (List.drop (none.getD (0 : Int)).toNat (List.take ((some i).getD (↑es.length : Int)).toNat es) ++ [[DV.int .i64 a0, DV.int .i64 a1, DV.int .i64 a2, DV.int .i64 a3, DV.int .i64 a4, DV.int .i64 a5, DV.int .i64 a6]])))
 (cond (decide ((0 : Nat) + (List.drop (none.getD (0 : Int)).toNat (List.take ((some i).getD (↑es.length : Int)).toNat es) ++ [[DV.int .i64 a0, DV.int .i64 a1, DV.int .i64 a2, DV.int .i64 a3, DV.int .i64 a4, DV.int .i64 a5, DV.int .i64 a6]]).length ≤ (List.drop (none.getD (0 : Int)).toNat (List.take ((some i).getD (↑es.length : Int)).toNat es) ++ [[DV.int .i64 a0, DV.int .i64 a1, DV.int .i64 a2, DV.int .i64 a3, DV.int .i64 a4, DV.int .i64 a5, DV.int .i64 a6]]).length))
 (some (.sl (SK.ro) 7 (List.take (List.drop (none.getD (0 : Int)).toNat (List.take ((some i).getD (↑es.length : Int)).toNat es) ++ [[DV.int .i64 a0, DV.int .i64 a1, DV.int .i64 a2, DV.int .i64 a3, DV.int .i64 a4, DV.int .i64 a5, DV.int .i64 a6]]).length (List.drop (none.getD (0 : Int)).toNat (List.take ((some i).getD (↑es.length : Int)).toNat es) ++ [[DV.int .i64 a0, DV.int .i64 a1, DV.int .i64 a2, DV.int .i64 a3, DV.int .i64 a4, DV.int .i64 a5, DV.int .i64 a6]]))))
 none))
 (cond ((List.drop ((some i).getD (0 : Int)).toNat (List.take (none.getD (↑es.length : Int)).toNat es)).all fun (e : List DV) => e.length == (7 : Nat) && e.all DV.one)
 (cond (decide ((27 : Nat) = (27 : Nat) ∧ (7 : Nat) = (7 : Nat) ∧ (7 : Nat) = (7 : Nat) ∧ (0 : Nat) = (0 : Nat) ∧ (List.drop (none.getD (0 : Int)).toNat (List.take ((some i).getD (↑es.length : Int)).toNat es) ++ [[DV.int .i64 a0, DV.int .i64 a1, DV.int .i64 a2, DV.int .i64 a3, DV.int .i64 a4, DV.int .i64 a5, DV.int .i64 a6]]).length = (List.drop (none.getD (0 : Int)).toNat (List.take ((some i).getD (↑es.length : Int)).toNat es) ++ [[DV.int .i64 a0, DV.int .i64 a1, DV.int .i64 a2, DV.int .i64 a3, DV.int .i64 a4, DV.int .i64 a5, DV.int .i64 a6]]).length ∧ (List.drop (none.getD (0 : Int)).toNat (List.take ((some i).getD (↑es.length : Int)).toNat es) ++ [[DV.int .i64 a0, DV.int .i64 a1, DV.int .i64 a2, DV.int .i64 a3, DV.int .i64 a4, DV.int .i64 a5, DV.int .i64 a6]] ++ List.drop ((some i).getD (0 : Int)).toNat (List.take (none.getD (↑es.length : Int)).toNat es)).length * (56 : Nat) ≤ room ∧ (List.drop (none.getD (0 : Int)).toNat (List.take ((some i).getD (↑es.length : Int)).toNat es) ++ [[DV.int .i64 a0, DV.int .i64 a1, DV.int .i64 a2, DV.int .i64 a3, DV.int .i64 a4, DV.int .i64 a5, DV.int .i64 a6]] ++ List.drop ((some i).getD (0 : Int)).toNat (List.take (none.getD (↑es.length : Int)).toNat es)).length ≤ room))
 (cond (decide ((List.drop (none.getD (0 : Int)).toNat (List.take ((some i).getD (↑es.length : Int)).toNat es) ++ [[DV.int .i64 a0, DV.int .i64 a1, DV.int .i64 a2, DV.int .i64 a3, DV.int .i64 a4, DV.int .i64 a5, DV.int .i64 a6]] ++ List.drop ((some i).getD (0 : Int)).toNat (List.take (none.getD (↑es.length : Int)).toNat es)).length = (List.drop (none.getD (0 : Int)).toNat (List.take ((some i).getD (↑es.length : Int)).toNat es) ++ [[DV.int .i64 a0, DV.int .i64 a1, DV.int .i64 a2, DV.int .i64 a3, DV.int .i64 a4, DV.int .i64 a5, DV.int .i64 a6]] ++ List.drop ((some i).getD (0 : Int)).toNat (List.take (none.getD (↑es.length : Int)).toNat es)).length))
 (some (.sl (SK.own (27 : Nat)) 7 (List.drop (none.getD (0 : Int)).toNat (List.take ((some i).getD (↑es.length : Int)).toNat es) ++ [[DV.int .i64 a0, DV.int .i64 a1, DV.int .i64 a2, DV.int .i64 a3, DV.int .i64 a4, DV.int .i64 a5, DV.int .i64 a6]] ++ List.drop ((some i).getD (0 : Int)).toNat (List.take (none.getD (↑es.length : Int)).toNat es))))
 (cond (decide ((0 : Nat) + (List.drop (none.getD (0 : Int)).toNat (List.take ((some i).getD (↑es.length : Int)).toNat es) ++ [[DV.int .i64 a0, DV.int .i64 a1, DV.int .i64 a2, DV.int .i64 a3, DV.int .i64 a4, DV.int .i64 a5, DV.int .i64 a6]] ++ List.drop ((some i).getD (0 : Int)).toNat (List.take (none.getD (↑es.length : Int)).toNat es)).length ≤ (List.drop (none.getD (0 : Int)).toNat (List.take ((some i).getD (↑es.length : Int)).toNat es) ++ [[DV.int .i64 a0, DV.int .i64 a1, DV.int .i64 a2, DV.int .i64 a3, DV.int .i64 a4, DV.int .i64 a5, DV.int .i64 a6]] ++ List.drop ((some i).getD (0 : Int)).toNat (List.take (none.getD (↑es.length : Int)).toNat es)).length))
 (some (.sl (SK.ro) 7 (List.take (List.drop (none.getD (0 : Int)).toNat (List.take ((some i).getD (↑es.length : Int)).toNat es) ++ [[DV.int .i64 a0, DV.int .i64 a1, DV.int .i64 a2, DV.int .i64 a3, DV.int .i64 a4, DV.int .i64 a5, DV.int .i64 a6]] ++ List.drop ((some i).getD (0 : Int)).toNat (List.take (none.getD (↑es.length : Int)).toNat es)).length (List.drop (none.getD (0 : Int)).toNat (List.take ((some i).getD (↑es.length : Int)).toNat es) ++ [[DV.int .i64 a0, DV.int .i64 a1, DV.int .i64 a2, DV.int .i64 a3, DV.int .i64 a4, DV.int .i64 a5, DV.int .i64 a6]] ++ List.drop ((some i).getD (0 : Int)).toNat (List.take (none.getD (↑es.length : Int)).toNat es)))))
 none))
 none)
 none))
 none)
 none)
 none)
 none)
 none)
 none))
 none)
 none) from by kernel_rfl).trans (by first | rfl | (simp only [decide_true, decide_false, eq_self, and_true, true_and, and_self, cond_true, cond_false, Nat.le_refl, Int.le_refl, Option.getD_some, Option.getD_none, Int.toNat_natCast, List.take_length, List.drop_zero, Nat.zero_add, List.nil_append, List.all_nil, List.append_nil, Bool.true_and, Bool.and_true, rowsA_sla, rowsA_sl, rowsA_nil, minus_zero, nat_le_cast, nat_nonneg, Option.isSome_some, Option.isSome_none, Bool.false_eq_true, false_and, and_false, if_true, if_false, implies_true, Int.toNat_zero, Bool.not_false, Bool.not_true, bne_self_eq_false]; done) | (simp only [decide_true, decide_false, eq_self, and_true, true_and, and_self, cond_true, cond_false, Nat.le_refl, Int.le_refl, Option.getD_some, Option.getD_none, Int.toNat_natCast, List.take_length, List.drop_zero, Nat.zero_add, List.nil_append, List.all_nil, List.append_nil, Bool.true_and, Bool.and_true, rowsA_sla, rowsA_sl, rowsA_nil, minus_zero, nat_le_cast, nat_nonneg, Option.isSome_some, Option.isSome_none, Bool.false_eq_true, false_and, and_false, if_true, if_false, implies_true, Int.toNat_zero, Bool.not_false, Bool.not_true, bne_self_eq_false]; rfl))
theorem rt30 (L n : Nat) (es : List (List DV)) (a0 a1 a2 a3 a4 a5 a6 : Int) : FK tab spP7 lo L (n+8) 21 [.sla false 7 es, .agg [.int .i64 a0, .int .i64 a1, .int .i64 a2, .int .i64 a3, .int .i64 a4, .int .i64 a5, .int .i64 a6]] =
   (need (fndS.D [DV.sla false 7 es, DV.int .i64 a0])
 (bif decide (fI es a0 ≥ (0 : Int)) then some (DV.tuple [DV.sla false 7 es, DV.int .i64 6])
 else
 bif decide ((↑es.length : Int) ≥ (40 : Int)) then some (DV.tuple [DV.sla false 7 es, DV.int .i64 3])
 else
 need
 (behS.D
 [DV.sla false 7 es,
 DV.agg
 [DV.int .i64 a0, DV.int .i64 a1, DV.int .i64 a2, DV.int .i64 a3, DV.int .i64 a4, DV.int .i64 a5, DV.int .i64 a6]])
 (need
 (inbS.D
 [DV.sla false 7 es, DV.int .i64
 (↑(bhP es
 [DV.int .i64 a0, DV.int .i64 a1, DV.int .i64 a2, DV.int .i64 a3, DV.int .i64 a4, DV.int .i64 a5, DV.int .i64 a6]) :
 Int),
 DV.agg
 [DV.int .i64 a0, DV.int .i64 a1, DV.int .i64 a2, DV.int .i64 a3, DV.int .i64 a4, DV.int .i64 a5, DV.int .i64 a6]])
 (some
 (DV.tuple
 [DV.sla false 7
 (inB es
 (bhP es
 [DV.int .i64 a0, DV.int .i64 a1, DV.int .i64 a2, DV.int .i64 a3, DV.int .i64 a4, DV.int .i64 a5, DV.int .i64 a6])
 [DV.int .i64 a0, DV.int .i64 a1, DV.int .i64 a2, DV.int .i64 a3, DV.int .i64 a4, DV.int .i64 a5, DV.int .i64 a6]), DV.int .i64 0]))))) :=
  (show FK tab spP7 lo L (n+8) 21 [.sla false 7 es, .agg [.int .i64 a0, .int .i64 a1, .int .i64 a2, .int .i64 a3, .int .i64 a4, .int .i64 a5, .int .i64 a6]] =
 (need (FSpec.D (fndS) [(.sla false 7 es), (.int .i64 a0)])
 (cond (decide (fI (rowsA (DV.sla false 7 es)) a0 ≥ (0 : Int)))
 (some (.tuple [(.sla false 7 es), (.int .i64 ((6 : Int)))]))
 (cond (decide ((↑es.length : Int) ≥ (40 : Int)))
 (some (.tuple [(.sla false 7 es), (.int .i64 ((3 : Int)))]))
 (need (FSpec.D (behS) [(.sla false 7 es), (.agg [(.int .i64 a0), (.int .i64 a1), (.int .i64 a2), (.int .i64 a3), (.int .i64 a4), (.int .i64 a5), (.int .i64 a6)])])
 (need (FSpec.D (inbS) [(.sla false 7 es), (.int .i64 ((↑(bhP (rowsA (DV.sla false 7 es)) [DV.int .i64 a0, DV.int .i64 a1, DV.int .i64 a2, DV.int .i64 a3, DV.int .i64 a4, DV.int .i64 a5, DV.int .i64 a6]) : Int))), (.agg [(.int .i64 a0), (.int .i64 a1), (.int .i64 a2), (.int .i64 a3), (.int .i64 a4), (.int .i64 a5), (.int .i64 a6)])])
 (some (.tuple [(.sla false 7 (inB (rowsA (DV.sla false 7 es)) (↑(bhP (rowsA (DV.sla false 7 es)) [DV.int .i64 a0, DV.int .i64 a1, DV.int .i64 a2, DV.int .i64 a3, DV.int .i64 a4, DV.int .i64 a5, DV.int .i64 a6]) : Int).toNat [DV.int .i64 a0, DV.int .i64 a1, DV.int .i64 a2, DV.int .i64 a3, DV.int .i64 a4, DV.int .i64 a5, DV.int .i64 a6])), (.int .i64 ((0 : Int)))]))))))) from by kernel_rfl).trans (by first | rfl | (simp only [decide_true, decide_false, eq_self, and_true, true_and, and_self, cond_true, cond_false, Nat.le_refl, Int.le_refl, Option.getD_some, Option.getD_none, Int.toNat_natCast, List.take_length, List.drop_zero, Nat.zero_add, List.nil_append, List.all_nil, List.append_nil, Bool.true_and, Bool.and_true, rowsA_sla, rowsA_sl, rowsA_nil, minus_zero, nat_le_cast, nat_nonneg, Option.isSome_some, Option.isSome_none, Bool.false_eq_true, false_and, and_false, if_true, if_false, implies_true, Int.toNat_zero, Bool.not_false, Bool.not_true, bne_self_eq_false]; done) | (simp only [decide_true, decide_false, eq_self, and_true, true_and, and_self, cond_true, cond_false, Nat.le_refl, Int.le_refl, Option.getD_some, Option.getD_none, Int.toNat_natCast, List.take_length, List.drop_zero, Nat.zero_add, List.nil_append, List.all_nil, List.append_nil, Bool.true_and, Bool.and_true, rowsA_sla, rowsA_sl, rowsA_nil, minus_zero, nat_le_cast, nat_nonneg, Option.isSome_some, Option.isSome_none, Bool.false_eq_true, false_and, and_false, if_true, if_false, implies_true, Int.toNat_zero, Bool.not_false, Bool.not_true, bne_self_eq_false]; rfl))
theorem isK_int {c : DV} (h : DV.isK (.int .i64 0) c = true) : ∃ n, c = .int .i64 n := by
  cases c with
  | int q n =>
    simp only [DV.isK, decide_eq_true_eq] at h
    exact ⟨n, by rw [h]⟩
  | _ => simp [DV.isK] at h
theorem okRow_p {e : List DV} (h : okRow z7 e = true) : ∃ a0 a1 a2 a3 a4 a5 a6 : Int, e = [.int .i64 a0, .int .i64 a1, .int .i64 a2, .int .i64 a3, .int .i64 a4, .int .i64 a5, .int .i64 a6] := by
  simp only [okRow, Bool.and_eq_true] at h
  obtain ⟨hl, hk⟩ := h
  have hl : e.length = 7 := Nat.eq_of_beq_eq_true hl
  match e, hl with
  | [c0, c1, c2, c3, c4, c5, c6], _ =>
    simp only [kindsOk, Bool.and_eq_true] at hk
    obtain ⟨h0, h1, h2, h3, h4, h5, h6, _⟩ := hk
    obtain ⟨_, rfl⟩ := isK_int h0
    obtain ⟨_, rfl⟩ := isK_int h1
    obtain ⟨_, rfl⟩ := isK_int h2
    obtain ⟨_, rfl⟩ := isK_int h3
    obtain ⟨_, rfl⟩ := isK_int h4
    obtain ⟨_, rfl⟩ := isK_int h5
    obtain ⟨_, rfl⟩ := isK_int h6
    exact ⟨_, _, _, _, _, _, _, rfl⟩
theorem fI_lt : ∀ (es : List (List DV)) (id : Int), fI es id < es.length ∧ -1 ≤ fI es id
  | [], _ => by simp [fI]
  | e :: l, id => by
    have h := fI_lt l id
    simp only [fI, List.length_cons]
    cases idO e == id with
    | true => simp only [cond_true]; omega
    | false =>
      cases hd : decide (fI l id < 0) with
      | true => simp only [cond_true, cond_false]; omega
      | false => simp only [cond_false]; omega
theorem fI_drop {es : List (List DV)} {id : Int} {i : Nat} (hi : i < es.length) : fI (es.drop i) id = cond (idO es[i] == id) 0 (cond (decide (fI (es.drop (i + 1)) id < 0)) (-1) (fI (es.drop (i + 1)) id + 1)) := by
  rw [List.drop_eq_getElem_cons hi]
  rfl
theorem loopF (f : St → Kont → Option DV) (S : Nat → St) (es : List (List DV)) (id : Int)
    (hs : ∀ i (hi : i < es.length) k, f (S i) k = cond (idO es[i] == id) (k .ret (St.of [(4, .d (.int .i64 (i : Nat)))] [])) (k .nrm (S (i + 1))))
    (he : ∀ k, f (S es.length) k = k (.ex 0) (St.of [] [])) : ∀ r, (LR.br (decide (fI es id < 0)) (.one (.ex 0) (St.of [] [])) (.one .ret (St.of [(4, .d (.int .i64 (fI es id)))] []))).val = some r → LoopOk f (S 0) r := by
  intro r hr
  have key := loop_list (f := f) S es (fun i => ((LR.br (decide (fI (es.drop i) id < 0)) (.one (.ex 0) (St.of [] [])) (.one .ret (St.of [(4, .d (.int .i64 (fI (es.drop i) id + i)))] []))).val).getD (.nrm, St.of [] []))
    (fun i hi => by
      cases hc : (idO es[i] == id) with
      | true =>
        right
        have e1 : fI (es.drop i) id = 0 := by rw [fI_drop hi, hc]; rfl
        rw [e1]
        refine ⟨by simp [LR.val], fun k => ?_⟩
        rw [hs i hi, hc, cond_true]
        simp [LR.val]
      | false =>
        left
        have e1 : fI (es.drop i) id = cond (decide (fI (es.drop (i + 1)) id < 0)) (-1) (fI (es.drop (i + 1)) id + 1) := by rw [fI_drop hi, hc]; rfl
        refine ⟨fun k => by rw [hs i hi, hc]; rfl, ?_⟩
        rw [e1]
        by_cases hd : fI (es.drop (i + 1)) id < 0
        · rw [decide_eq_true hd]; rfl
        · rw [decide_eq_false hd, cond_false, decide_eq_false (show ¬ fI (es.drop (i + 1)) id + 1 < 0 by omega)]
          simp only [LR.val, cond_false, Option.getD_some]
          rw [show fI (es.drop (i + 1)) id + 1 + (i : Int) = fI (es.drop (i + 1)) id + ((i + 1 : Nat) : Int) by omega])
    (by
      rw [List.drop_length]
      refine ⟨by simp [LR.val, fI], fun k => ?_⟩
      rw [he]
      rfl)
  simp only [List.drop_zero, Int.natCast_zero, Int.add_zero, hr, Option.getD_some] at key
  exact key
theorem fnd26 : fndS.ok Try.prog 12 := fun ds r hD hv => by
  obtain ⟨x, id, rfl, hx, hz, hl⟩ := hD
  cases hv
  refine EntX.gen1 hx (spec_run (lsp := lr) tab_ok noSp_ok 20 (0 + 8) ((rt26 20 0 (rowsA x) id).trans ?_))
  generalize rowsA x = es at *
  have h := loopF (LB tab noSp lr 20 (0 + 8) h120 c12l0) (fun i => S260 (.sla false 7 es) id (i : Nat)) es id
    (fun i hi k => by rw [rs260, lt_dec hi, cond_true, look_nat hi, hz _ (List.getElem_mem hi), cond_true, wrap_succ (by omega)]; rfl)
    (fun k => by rw [rs260, lt_dec_self]; rfl)
  by_cases hd : fI es id < 0
  · rw [decide_eq_true hd] at h ⊢
    have : fI es id = -1 := by have := (fI_lt es id).2; omega
    rw [this]
    exact need_pos (h _ rfl)
  · rw [decide_eq_false hd] at h ⊢
    exact need_pos (h _ rfl)
theorem eta7 {e : List DV} (h : okRow z7 e = true) : [DV.int .i64 (cellA e 0).toI, .int .i64 (cellA e 1).toI, .int .i64 (cellA e 2).toI, .int .i64 (cellA e 3).toI, .int .i64 (cellA e 4).toI, .int .i64 (cellA e 5).toI, .int .i64 (cellA e 6).toI] = e := by
  obtain ⟨a0, a1, a2, a3, a4, a5, a6, rfl⟩ := okRow_p h
  rfl
theorem tw_spec (f : List DV → Bool) : ∀ es : List (List DV), (es.takeWhile f).length ≤ es.length ∧ (∀ i (_ : i < (es.takeWhile f).length) (h2 : i < es.length), f es[i] = true) ∧ ∀ h : (es.takeWhile f).length < es.length, f es[(es.takeWhile f).length] = false
  | [] => ⟨by simp, fun i h _ => by simp at h, fun h => by simp at h⟩
  | e :: l => by
    obtain ⟨h1, h2, h3⟩ := tw_spec f l
    simp only [List.takeWhile_cons]
    by_cases hc : f e = true
    · simp only [hc, if_true, List.length_cons]
      refine ⟨by omega, fun i hi hl => ?_, fun h => ?_⟩
      · cases i with
        | zero => simpa using hc
        | succ i => simpa using h2 i (by omega) (by simpa using hl)
      · simpa using h3 (by omega)
    · have hc : f e = false := by simpa using hc
      simp only [hc, Bool.false_eq_true, if_false, List.length_nil]
      refine ⟨by omega, fun i hi => by omega, fun h => ?_⟩
      simpa using hc
theorem all_one7 {es : List (List DV)} (h : ∀ e ∈ es, okRow z7 e = true) : (es.all fun (e : List DV) => e.length == 7 && e.all DV.one) = true := by
  rw [List.all_eq_true]
  intro e he
  obtain ⟨a0, a1, a2, a3, a4, a5, a6, rfl⟩ := okRow_p (h e he)
  rfl
theorem room7 {n : Nat} (h : n ≤ 1000000) : decide (n * 56 ≤ room ∧ n ≤ room) = true := decide_eq_true (by unfold room; omega)
theorem fI_any : ∀ (es : List (List DV)) (id : Int), decide (0 ≤ fI es id) = es.any fun e => idO e == id
  | [], _ => rfl
  | e :: l, id => by
    have ih := fI_any l id
    have hfe : fI (e :: l) id = cond (idO e == id) 0 (cond (decide (fI l id < 0)) (-1) (fI l id + 1)) := rfl
    rw [List.any_cons, ← ih, hfe]
    cases idO e == id with
    | true => rfl
    | false =>
      by_cases h : fI l id < 0
      · rw [decide_eq_true h, decide_eq_false (show ¬ 0 ≤ fI l id by omega)]; rfl
      · rw [decide_eq_false h, decide_eq_true (show 0 ≤ fI l id by omega), cond_false, cond_false, decide_eq_true (show 0 ≤ fI l id + 1 by omega)]; rfl
theorem fI_at : ∀ (es : List (List DV)) (id : Int), 0 ≤ fI es id → ∃ h : (fI es id).toNat < es.length, idO es[(fI es id).toNat] = id
  | [], id, h => by simp [fI] at h
  | e :: l, id, h => by
    have hfe : fI (e :: l) id = cond (idO e == id) 0 (cond (decide (fI l id < 0)) (-1) (fI l id + 1)) := rfl
    cases hc : idO e == id with
    | true =>
      have h0 : fI (e :: l) id = 0 := by rw [hfe, hc]; rfl
      simp only [h0]
      exact ⟨by simp, by simpa using hc⟩
    | false =>
      rw [hc] at hfe
      by_cases hl : fI l id < 0
      · rw [decide_eq_true hl] at hfe
        rw [hfe] at h
        simp at h
      · obtain ⟨h1, h2⟩ := fI_at l id (by omega)
        rw [decide_eq_false hl] at hfe
        have e1 : (fI (e :: l) id).toNat = (fI l id).toNat + 1 := by
          rw [hfe, cond_false, cond_false]
          omega
        simp only [e1]
        exact ⟨by simpa using h1, by simpa using h2⟩
theorem spG_ok : ∀ f s, spG f = some s → s.ok Try.prog f := spAdd_ok fnd26 noSp_ok
theorem bh_le (es : List (List DV)) (p : List DV) : bhP es p ≤ es.length := (tw_spec (fun e => ahB e p) es).1
theorem drop_rows {es : List (List DV)} (hz : ∀ e ∈ es, okRow z7 e = true) (id : Int) : (∀ e ∈ dropL es id, okRow z7 e = true) ∧ (dropL es id).length ≤ es.length := by
  unfold dropL delB
  cases decide (fI es id < 0) with
  | true => exact ⟨hz, Nat.le_refl _⟩
  | false =>
    refine ⟨fun e he => ?_, ?_⟩
    · rcases List.mem_append.1 he with h | h
      · exact hz e (List.mem_of_mem_take h)
      · exact hz e (List.mem_of_mem_drop h)
    · simp only [cond_false, List.length_append, List.length_take, List.length_drop]
      omega
theorem dropP_ok {es : List (List DV)} (hz : ∀ e ∈ es, okRow z7 e = true) (id : Int) : okRow z7 (dropP es id) = true := by
  unfold dropP
  cases decide (fI es id < 0) with
  | true => rfl
  | false =>
    rw [cond_false]
    cases h : es[(fI es id).toNat]? with
    | none => rfl
    | some e => exact hz _ (List.mem_of_getElem? h)
theorem sort_drop {es : List (List DV)} {i : Nat} (hi : i + 1 < es.length) : sortB (es.drop i) = (ahB es[i] es[i + 1] && sortB (es.drop (i + 1))) := by
  rw [List.drop_eq_getElem_cons (show i < es.length by omega), List.drop_eq_getElem_cons hi]
  rfl
theorem sort_last {es : List (List DV)} {i : Nat} (hi : es.length ≤ i + 1) : sortB (es.drop i) = true := by
  by_cases h : i < es.length
  · rw [List.drop_eq_getElem_cons h, List.drop_eq_nil_of_le hi]
    rfl
  · rw [List.drop_eq_nil_of_le (by omega)]
    rfl
theorem uni_drop {l es : List (List DV)} {i : Nat} (hi : i < es.length) : uniF l i (es.drop i) = ((fI l (idO es[i]) == ((i : Nat) : Int)) && uniF l (i + 1) (es.drop (i + 1))) := by
  rw [List.drop_eq_getElem_cons hi]
  rfl
theorem loop200 (L n : Nat) {es : List (List DV)} (hz : ∀ e ∈ es, okRow z7 e = true) (hl : es.length ≤ 1000) : ∀ r, (LR.br (uniF es 0 es && sortB es) (.one (.ex 0) (St.of [(0, .d (.sla false 7 es))] [])) (.one .ret (St.of [(2, .d (.bool false))] []))).val = some r →
    LoopOk (LB tab spG lp L (n+4) h160 c16l0) (S200 (.sla false 7 es) 0) r := by
  intro r hr
  have key := loop_list (f := LB tab spG lp L (n+4) h160 c16l0) (fun i => S200 (.sla false 7 es) (i : Nat)) es (fun i => ((LR.br (uniF es i (es.drop i) && sortB (es.drop (i - 1))) (.one (.ex 0) (St.of [(0, .d (.sla false 7 es))] [])) (.one .ret (St.of [(2, .d (.bool false))] []))).val).getD (.nrm, St.of [] []))
    (fun i hi => by
      have hzi := hz es[i] (List.getElem_mem hi)
      have hd : (uniF es i (es.drop i) && sortB (es.drop (i - 1))) = ((fI es (idO es[i]) == ((i : Nat) : Int)) && ((if h : 0 < i then ahB (es[i - 1]'(by omega)) es[i] else true) && (uniF es (i + 1) (es.drop (i + 1)) && sortB (es.drop i)))) := by
        rw [uni_drop hi]
        by_cases h0 : 0 < i
        · rw [dif_pos h0]
          obtain ⟨j, rfl⟩ : ∃ j, i = j + 1 := ⟨i - 1, by omega⟩
          simp only [Nat.add_sub_cancel]
          rw [sort_drop hi]
          cases (fI es (idO es[j + 1]) == ((j + 1 : Nat) : Int)) <;> cases ahB es[j] es[j + 1] <;> cases uniF es (j + 1 + 1) (es.drop (j + 1 + 1)) <;> cases sortB (es.drop (j + 1)) <;> rfl
        · rw [dif_neg h0]
          have : i = 0 := by omega
          subst this
          simp only [Bool.true_and, Nat.zero_sub, Bool.and_assoc]
      have hstep : ∀ k, LB tab spG lp L (n+4) h160 c16l0 (S200 (.sla false 7 es) (i : Nat)) k = cond ((fI es (idO es[i]) == ((i : Nat) : Int)) && (if h : 0 < i then ahB (es[i - 1]'(by omega)) es[i] else true)) (k .nrm (S200 (.sla false 7 es) ((i + 1 : Nat) : Int))) (k .ret (St.of [(2, .d (.bool false))] [])) := by
        intro k
        rw [rs200, lt_dec hi, cond_true, look_nat hi, hzi, cond_true, wrap_succ (by omega)]
        refine (need_pos ⟨_, _, rfl, Sl.sla _ _ _, hz, hl⟩).trans ?_
        by_cases h0 : 0 < i
        · have hp : i - 1 < es.length := by omega
          rw [dif_pos h0, decide_eq_true (show ((i : Nat) : Int) > 0 by omega), cond_true, wrap_pred h0 (by omega), decide_eq_true (show (0 : Int) ≤ ((i - 1 : Nat) : Int) by omega), cond_true, Int.toNat_natCast, look_nat hp, hz _ (List.getElem_mem hp), cond_true, look_nat hi, hzi, cond_true]
          have e1 : (cond (decide ((cellA (es[i - 1]'hp) 1).toI < (cellA es[i] 1).toI)) true (cond ((cellA (es[i - 1]'hp) 1).toI == (cellA es[i] 1).toI) (decide ((cellA (es[i - 1]'hp) 4).toI ≤ (cellA es[i] 4).toI)) false)) = ahB (es[i - 1]'hp) es[i] := by
            unfold ahB frm cls
            have : ((cellA (es[i - 1]'hp) 1).toI == (cellA es[i] 1).toI) = decide ((cellA (es[i - 1]'hp) 1).toI = (cellA es[i] 1).toI) := by
              by_cases h : (cellA (es[i - 1]'hp) 1).toI = (cellA es[i] 1).toI
              · rw [decide_eq_true h]; exact beq_iff_eq.2 h
              · rw [decide_eq_false h]; exact beq_eq_false_iff_ne.2 h
            rw [this]
            cases decide ((cellA (es[i - 1]'hp) 1).toI < (cellA es[i] 1).toI) <;> cases decide ((cellA (es[i - 1]'hp) 1).toI = (cellA es[i] 1).toI) <;> rfl
          rw [e1]
          unfold idO bne
          cases (fI es (cellA es[i] 0).toI == ((i : Nat) : Int)) <;> cases ahB (es[i - 1]'hp) es[i] <;> rfl
        · rw [dif_neg h0, decide_eq_false (show ¬ ((i : Nat) : Int) > 0 by omega)]
          unfold idO bne
          cases (fI es (cellA es[i] 0).toI == ((i : Nat) : Int)) <;> rfl
      cases hc : ((fI es (idO es[i]) == ((i : Nat) : Int)) && (if h : 0 < i then ahB (es[i - 1]'(by omega)) es[i] else true)) with
      | false =>
        right
        simp only [hd, ← Bool.and_assoc, hc, Bool.false_and, LR.val, cond_false, Option.getD_some]
        exact ⟨by simp, fun k => by rw [hstep, hc]; rfl⟩
      | true =>
        left
        have hd2 : (uniF es i (es.drop i) && sortB (es.drop (i - 1))) = (uniF es (i + 1) (es.drop (i + 1)) && sortB (es.drop i)) := by
          rw [hd, ← Bool.and_assoc, hc, Bool.true_and]
        simp only [hd2, Nat.add_sub_cancel]
        exact ⟨fun k => by rw [hstep, hc]; rfl, trivial⟩)
    (by
      rw [List.drop_length, sort_last (by omega)]
      simp only [uniF, Bool.and_self, LR.val, cond_true, Option.getD_some]
      exact ⟨by simp, fun k => by rw [rs200, lt_dec_self]; rfl⟩)
  simp only [List.drop_zero, Nat.zero_sub, hr, Option.getD_some] at key
  exact key
theorem is20 : isPS.ok Try.prog 16 := fun ds r hD hv => by
  obtain ⟨x, rfl, hx, hz, hl⟩ := hD
  cases hv
  refine EntX.gen1 hx (spec_run (lsp := lp) tab_ok spG_ok 20 (0 + 8) ((rt20 20 0 (rowsA x)).trans ?_))
  generalize rowsA x = es at *
  have h := loop200 20 (0 + 4) hz hl
  unfold isP
  have e40 : decide ((es.length : Int) ≤ (40 : Int)) = decide (es.length ≤ 40) := decide_eq_decide.2 (by omega)
  have hc : (uniF es 0 es && (decide (es.length ≤ 40) && sortB es)) = ((uniF es 0 es && sortB es) && decide (es.length ≤ 40)) := by
    cases uniF es 0 es <;> cases sortB es <;> cases decide (es.length ≤ 40) <;> rfl
  rw [hc]
  cases hb : (uniF es 0 es && sortB es) with
  | true =>
    rw [hb] at h
    refine (need_pos (h _ rfl)).trans ?_
    rw [e40, Bool.true_and]
  | false =>
    rw [hb] at h
    exact need_pos (h _ rfl)
theorem eq7 {a b : List DV} (ha : okRow z7 a = true) (hb : okRow z7 b = true) : ((cellA a 0).toI == (cellA b 0).toI && ((cellA a 1).toI == (cellA b 1).toI && ((cellA a 2).toI == (cellA b 2).toI && ((cellA a 3).toI == (cellA b 3).toI && ((cellA a 4).toI == (cellA b 4).toI && ((cellA a 5).toI == (cellA b 5).toI && (cellA a 6).toI == (cellA b 6).toI)))))) = decide (ints a = ints b) := by
  obtain ⟨a0, a1, a2, a3, a4, a5, a6, rfl⟩ := okRow_p ha
  obtain ⟨b0, b1, b2, b3, b4, b5, b6, rfl⟩ := okRow_p hb
  rw [Bool.eq_iff_iff]
  simp [ints, DV.toI, cellA]
theorem loop270 (L n : Nat) {es es2 : List (List DV)} (hz : ∀ e ∈ es, okRow z7 e = true) (hz2 : ∀ e ∈ es2, okRow z7 e = true) (hl : es.length ≤ 1000) (hle : es2.length = es.length) : ∀ r, (LR.br (sameP es es2) (.one (.ex 0) (St.of [] [])) (.one .ret (St.of [(4, .d (.bool false))] []))).val = some r →
    LoopOk (LB tab noSp lg L (n+4) h150 c15l0) (S270 (.sla false 7 es) (.sla false 7 es2) 0) r := by
  intro r hr
  have key := loop_list (f := LB tab noSp lg L (n+4) h150 c15l0) (fun i => S270 (.sla false 7 es) (.sla false 7 es2) (i : Nat)) es (fun i => ((LR.br (sameP (es.drop i) (es2.drop i)) (.one (.ex 0) (St.of [] [])) (.one .ret (St.of [(4, .d (.bool false))] []))).val).getD (.nrm, St.of [] []))
    (fun i hi => by
      have hzi := hz es[i] (List.getElem_mem hi)
      have hi2 : i < es2.length := by omega
      have hzi2 := hz2 es2[i] (List.getElem_mem hi2)
      have hd : sameP (es.drop i) (es2.drop i) = (decide (ints es[i] = ints es2[i]) && sameP (es.drop (i + 1)) (es2.drop (i + 1))) := by
        unfold sameP
        rw [List.drop_eq_getElem_cons hi, List.drop_eq_getElem_cons hi2]
        simp only [List.map_cons, List.cons.injEq, Bool.decide_and]
      have hstep : ∀ k, LB tab noSp lg L (n+4) h150 c15l0 (S270 (.sla false 7 es) (.sla false 7 es2) (i : Nat)) k = cond (decide (ints es[i] = ints es2[i])) (k .nrm (S270 (.sla false 7 es) (.sla false 7 es2) ((i + 1 : Nat) : Int))) (k .ret (St.of [(4, .d (.bool false))] [])) := by
        intro k
        rw [rs270, lt_dec hi, cond_true, look_nat hi, hzi, cond_true, look_nat hi2, hzi2, cond_true, wrap_succ (by omega), eq7 hzi hzi2]
        cases decide (ints es[i] = ints es2[i]) <;> rfl
      cases hc : decide (ints es[i] = ints es2[i]) with
      | false =>
        right
        simp only [hd, hc, Bool.false_and, LR.val, cond_false, Option.getD_some]
        exact ⟨by simp, fun k => by rw [hstep, hc]; rfl⟩
      | true =>
        left
        simp only [hd, hc, Bool.true_and]
        exact ⟨fun k => by rw [hstep, hc]; rfl, trivial⟩)
    (by
      have he : es2.drop es.length = [] := by rw [← hle, List.drop_length]
      simp only [List.drop_length, he, sameP, decide_true, LR.val, cond_true, Option.getD_some]
      exact ⟨by simp, fun k => by rw [rs270, lt_dec_self]; rfl⟩)
  simp only [List.drop_zero, hr, Option.getD_some] at key
  exact key
theorem same27 : samP.ok Try.prog 15 := fun ds r hD hv => by
  obtain ⟨x, y, rfl, ⟨hx, hz, hl⟩, ⟨hy, hz2, hl2⟩⟩ := hD
  cases hv
  refine EntX.gen2 hx hy (spec_run (lsp := lg) tab_ok noSp_ok 20 (0 + 8) ((rt27 20 0 (rowsA x) (rowsA y)).trans ?_))
  generalize rowsA x = es at *
  generalize rowsA y = es2 at *
  by_cases hle : es2.length = es.length
  · have h := loop270 20 (0 + 4) hz hz2 hl hle
    rw [hle, bne_self_eq_false, cond_false]
    cases hb : sameP es es2 with
    | true =>
      rw [hb] at h
      exact (need_pos (h _ rfl)).trans rfl
    | false =>
      rw [hb] at h
      exact (need_pos (h _ rfl)).trans rfl
  · have hb : sameP es es2 = false := decide_eq_false fun h => hle (by have := congrArg List.length h; simpa using this.symm)
    rw [hb, show (((es.length : Nat) : Int) != ((es2.length : Nat) : Int)) = true from bne_iff_ne.2 (by omega)]
    rfl
theorem ah_cond (x1 x4 a1 a4 : Int) (e p : List DV) (h1 : frm e = x1) (h4 : cls e = x4) (g1 : frm p = a1) (g4 : cls p = a4) : cond (decide (x1 < a1)) true (cond (x1 == a1) (decide (x4 ≤ a4)) false) = ahB e p := by
  subst h1 h4 g1 g4
  unfold ahB
  have : (frm e == frm p) = decide (frm e = frm p) := by
    by_cases h : frm e = frm p
    · rw [decide_eq_true h]; exact beq_iff_eq.2 h
    · rw [decide_eq_false h]; exact beq_eq_false_iff_ne.2 h
  rw [this]
  cases decide (frm e < frm p) <;> cases decide (frm e = frm p) <;> rfl
/-- a loop that goes on while a test holds stops at the first that fails -/
theorem loop_while {f : St → Kont → Option DV} (st : Nat → St) (out : Nat → Ex × St) (es : List (List DV)) (q : List DV → Bool)
    (hstep : ∀ (i : Nat) (hi : i < es.length) k, f (st i) k = cond (q es[i]) (k .nrm (st (i + 1))) (k (out i).1 (out i).2))
    (hend : ∀ k, f (st es.length) k = k (out es.length).1 (out es.length).2) (hne : ∀ i, (out i).1 ≠ .nrm) :
    LoopOk f (st 0) (out (es.takeWhile q).length) := by
  obtain ⟨p0, p1, p2⟩ := tw_spec q es
  generalize hb : (es.takeWhile q).length = b at *
  refine loop_meas st (fun i => es.length - i) (fun i => i ≤ b) (fun _ => out b) (fun i hs => ?_) 0 (Nat.zero_le _)
  by_cases hi : i < es.length
  · cases hc : q es[i] with
    | true =>
      left
      have hlt : i < b := by
        apply Nat.lt_of_not_le
        intro hge
        have : i = b := by omega
        subst this
        rw [p2 hi] at hc
        cases hc
      exact ⟨i + 1, hlt, by omega, rfl, fun k => by rw [hstep i hi, hc]; rfl⟩
    | false =>
      right
      have : i = b := by
        apply Nat.le_antisymm hs
        apply Nat.le_of_not_lt
        intro hlt
        rw [p1 i hlt hi] at hc
        cases hc
      subst this
      exact ⟨hne _, fun k => by rw [hstep i hi, hc, cond_false]⟩
  · right
    have h1 : i = es.length := by omega
    have h2 : b = es.length := by omega
    subst h2
    subst h1
    exact ⟨hne _, fun k => hend k⟩
theorem loop450 (L n : Nat) {es : List (List DV)} (hz : ∀ e ∈ es, okRow z7 e = true) (hl : es.length ≤ 1000) {p : List DV} (hp : okRow z7 p = true) :
    LoopOk (LB tab noSp lo (L+4) (n+4) h330 c33l0) (S450 es p 0) (.ex 0, St.of [(5, .d (.int .i64 (bhP es p)))] []) := by
  refine loop_while (fun i : Nat => S450 es p (i : Nat)) (fun i => (.ex 0, St.of [(5, .d (.int .i64 ((i : Nat) : Int)))] [])) es (fun e => ahB e p) (fun i hi k => ?_) (fun k => ?_) (fun i => by simp)
  · have hzi := hz _ (List.getElem_mem hi)
    obtain ⟨a0, a1, a2, a3, a4, a5, a6, rfl⟩ := okRow_p hp
    rw [rs450, lt_dec hi, cond_true, look_nat hi, hzi, cond_true, wrap_succ (by omega), ah_cond (cellA es[i] 1).toI (cellA es[i] 4).toI a1 a4 es[i] [.int .i64 a0, .int .i64 a1, .int .i64 a2, .int .i64 a3, .int .i64 a4, .int .i64 a5, .int .i64 a6] rfl rfl rfl rfl]
    rfl
  · obtain ⟨a0, a1, a2, a3, a4, a5, a6, rfl⟩ := okRow_p hp
    rw [rs450, lt_dec_self]
    rfl
theorem beh45 : behS.ok Try.prog 33 := fun ds r hD hv => by
  obtain ⟨x, p, rfl, ⟨hx, hz, hl⟩, hp⟩ := hD
  cases hv
  refine EntX.gen1 hx ?_
  generalize rowsA x = es at *
  have hL := loop450 16 (0 + 4) hz hl hp
  obtain ⟨a0, a1, a2, a3, a4, a5, a6, rfl⟩ := okRow_p hp
  exact spec_run (lsp := lo) tab_ok noSp_ok (16 + 4) (0 + 8) ((rt45 (16 + 4) 0 es a0 a1 a2 a3 a4 a5 a6).trans (need_pos hL))
theorem resI {f : FuncId} {ds : List DV} {x : DV} {sz : Nat} {es : List (List DV)} (hx : DLe (roTop x) (.sla false sz es)) (h : EntX Try.prog f ds x) : EntX Try.prog f ds (.sla false sz es) :=
  h.res hx rfl
theorem in44 : inbS.ok Try.prog 32 := fun ds r hD hv => by
  obtain ⟨x, i, p, rfl, ⟨hx, hz, hl⟩, hp, hi⟩ := hD
  cases hv
  refine EntX.gen1 hx ?_
  generalize rowsA x = es at *
  rw [Int.toNat_natCast]
  obtain ⟨a0, a1, a2, a3, a4, a5, a6, rfl⟩ := okRow_p hp
  have h := rt44 20 0 es (i : Nat) a0 a1 a2 a3 a4 a5 a6
  have hz3 : ∀ e ∈ es.take i, okRow z7 e = true := fun e he => hz e (List.mem_of_mem_take he)
  have hz4 : ∀ e ∈ es.drop i, okRow z7 e = true := fun e he => hz e (List.mem_of_mem_drop he)
  have l3 : (es.take i).length ≤ 1000 := by rw [List.length_take]; omega
  have l4 : (es.drop i).length ≤ 1000 := by rw [List.length_drop]; omega
  rw [Int.toNat_natCast, decide_eq_true (show (0 : Int) ≤ ((i : Nat) : Int) by omega), decide_eq_true (show ((i : Nat) : Int) ≤ (es.length : Int) by omega)] at h
  unfold inB
  generalize es.take i = A at *
  generalize es.drop i = B at *
  generalize hpp : [DV.int .i64 a0, .int .i64 a1, .int .i64 a2, .int .i64 a3, .int .i64 a4, .int .i64 a5, .int .i64 a6] = p at *
  have q1 : decide ((B.length + 1) * 56 ≤ room ∧ B.length + 1 ≤ room) = true := room7 (by omega)
  have q2 : decide (A.length * 56 ≤ room ∧ A.length ≤ room) = true := room7 (by omega)
  have q3 : decide ((A ++ [p]).length * 56 ≤ room ∧ (A ++ [p]).length ≤ room) = true := room7 (by rw [List.length_append]; simp; omega)
  have q4 : decide ((A ++ [p] ++ B).length * 56 ≤ room ∧ (A ++ [p] ++ B).length ≤ room) = true := room7 (by rw [List.length_append, List.length_append]; simp; omega)
  rw [all_one7 hz3, all_one7 hz4, q1, q2, q3, q4] at h
  simp only [cond_true] at h
  by_cases hA : A.length = 0
  · have : A = [] := List.eq_nil_of_length_eq_zero hA
    subst this
    rw [decide_eq_true hA, cond_true] at h
    by_cases hB : B.length = 0
    · have : B = [] := List.eq_nil_of_length_eq_zero hB
      subst this
      rw [decide_eq_true hB, cond_true] at h
      exact resI (x := .sl (.own 27) 7 [p]) (DLe.sl _ _ _) (spec_run (lsp := lo) tab_ok noSp_ok 20 (0 + 8) h)
    · rw [decide_eq_false hB, cond_false] at h
      exact resI (x := .sl (.own 27) 7 (p :: B)) (DLe.sl _ _ _) (spec_run (lsp := lo) tab_ok noSp_ok 20 (0 + 8) h)
  · rw [decide_eq_false hA, cond_false] at h
    by_cases hB : B.length = 0
    · have : B = [] := List.eq_nil_of_length_eq_zero hB
      subst this
      rw [decide_eq_true hB, cond_true] at h
      exact resI (x := .sl (.own 27) 7 (A ++ [p])) (DLe.sl _ _ _) (spec_run (lsp := lo) tab_ok noSp_ok 20 (0 + 8) h)
    · rw [decide_eq_false hB, cond_false] at h
      rw [show A ++ p :: B = A ++ [p] ++ B by simp]
      exact resI (x := .sl (.own 27) 7 (A ++ [p] ++ B)) (DLe.sl _ _ _) (spec_run (lsp := lo) tab_ok noSp_ok 20 (0 + 8) h)
theorem spP7_ok : ∀ f s, spP7 f = some s → s.ok Try.prog f := spAdd_ok fnd26 (spAdd_ok in44 (spAdd_ok beh45 noSp_ok))
theorem put30 : putS.ok Try.prog 21 := fun ds r hD hv => by
  obtain ⟨x, p, rfl, ⟨hx, hz, hl⟩, hp⟩ := hD
  cases hv
  refine EntX.gen1 hx ?_
  generalize rowsA x = es at *
  have hI : I7 1000 (.sla false 7 es) := ⟨Sl.sla _ _ _, hz, hl⟩
  have nB : behS.D [.sla false 7 es, .agg p] := ⟨_, _, rfl, hI, hp⟩
  have nI : inbS.D [.sla false 7 es, .int .i64 ((bhP es p : Nat) : Int), .agg p] := ⟨_, _, _, rfl, hI, hp, bh_le es p⟩
  obtain ⟨a0, a1, a2, a3, a4, a5, a6, rfl⟩ := okRow_p hp
  have h := (rt30 20 0 es a0 a1 a2 a3 a4 a5 a6).trans (need_pos ⟨_, _, rfl, hI⟩)
  have hid : idO [DV.int .i64 a0, .int .i64 a1, .int .i64 a2, .int .i64 a3, .int .i64 a4, .int .i64 a5, .int .i64 a6] = a0 := rfl
  have eg2 : decide (((es.length : Nat) : Int) ≥ (40 : Int)) = decide (40 ≤ es.length) := decide_eq_decide.2 (by omega)
  have eg : decide (fI es a0 ≥ (0 : Int)) = decide (0 ≤ fI es a0) := rfl
  rw [eg, eg2] at h
  unfold putL putE
  rw [hid]
  refine spec_run (lsp := lo) tab_ok spP7_ok 20 (0 + 8) (h.trans ?_)
  cases decide (0 ≤ fI es a0) with
  | true => rfl
  | false =>
    cases decide (40 ≤ es.length) with
    | true => rfl
    | false => exact (need_pos nB).trans (need_pos nI)
theorem ah_iff (a b : List DV) : ahB a b = true ↔ frm a < frm b ∨ (frm a = frm b ∧ cls a ≤ cls b) := by
  unfold ahB
  simp
theorem ah_trans {a b c : List DV} (h1 : ahB a b = true) (h2 : ahB b c = true) : ahB a c = true := by
  rw [ah_iff] at *
  omega
theorem ah_total {a b : List DV} (h : ahB a b = false) : ahB b a = true := by
  cases hb : ahB b a with
  | true => rfl
  | false =>
    have h1 : ¬ (frm a < frm b ∨ (frm a = frm b ∧ cls a ≤ cls b)) := fun h' => by rw [(ah_iff a b).2 h'] at h; cases h
    have h2 : ¬ (frm b < frm a ∨ (frm b = frm a ∧ cls b ≤ cls a)) := fun h' => by rw [(ah_iff b a).2 h'] at hb; cases hb
    omega
theorem sort_pw : ∀ es : List (List DV), sortB es = true ↔ es.Pairwise (fun a b => ahB a b = true)
  | [] => by simp [sortB]
  | [a] => by simp [sortB]
  | a :: b :: l => by
    rw [List.pairwise_cons, ← sort_pw (b :: l)]
    simp only [sortB, Bool.and_eq_true]
    constructor
    · rintro ⟨h1, h2⟩
      refine ⟨fun x hx => ?_, h2⟩
      rcases List.mem_cons.1 hx with rfl | hx
      · exact h1
      · exact ah_trans h1 ((List.pairwise_cons.1 ((sort_pw (b :: l)).1 h2)).1 x hx)
    · rintro ⟨h1, h2⟩
      exact ⟨h1 b (by simp), h2⟩
def ND (l : List (List DV)) : Prop := l.Pairwise fun a b => idO a ≠ idO b
theorem fI_app (D : List (List DV)) {p : List DV} {id : Int} (hp : idO p = id) : ∀ T : List (List DV), (∀ a ∈ T, idO a ≠ id) → fI (T ++ p :: D) id = T.length
  | [], _ => by
    show fI (p :: D) id = _
    have : fI (p :: D) id = cond (idO p == id) 0 (cond (decide (fI D id < 0)) (-1) (fI D id + 1)) := rfl
    rw [this, show (idO p == id) = true from beq_iff_eq.2 hp]
    rfl
  | e :: T, h => by
    have ih := fI_app D hp T fun a ha => h a (by simp [ha])
    have : fI (e :: (T ++ p :: D)) id = cond (idO e == id) 0 (cond (decide (fI (T ++ p :: D) id < 0)) (-1) (fI (T ++ p :: D) id + 1)) := rfl
    rw [List.cons_append, this, show (idO e == id) = false from beq_eq_false_iff_ne.2 (h e (by simp)), ih, decide_eq_false (by omega)]
    simp
theorem fI_no {l : List (List DV)} {id : Int} (h : ∀ a ∈ l, idO a ≠ id) : fI l id < 0 := by
  have h1 := fI_any l id
  have h2 : (l.any fun e => idO e == id) = false := by
    rw [List.any_eq_false]
    intro e he
    simpa using h e he
  rw [h2] at h1
  have := of_decide_eq_false h1
  omega
theorem uni_to {l : List (List DV)} (h : uniF l 0 l = true) : ∀ k (hk : k < l.length), fI l (idO l[k]) = (k : Int) ∧ uniF l (k + 1) (l.drop (k + 1)) = true
  | 0, hk => by
    have := uni_drop (l := l) hk
    rw [List.drop_zero, h] at this
    have := Bool.and_eq_true_iff.1 this.symm
    exact ⟨by simpa using this.1, this.2⟩
  | k + 1, hk => by
    have h1 := (uni_to h k (by omega)).2
    rw [uni_drop hk] at h1
    have := Bool.and_eq_true_iff.1 h1
    exact ⟨by simpa using this.1, this.2⟩
theorem uni_of {l : List (List DV)} (h : ∀ k (hk : k < l.length), fI l (idO l[k]) = (k : Int)) : ∀ n i, l.length - i = n → uniF l i (l.drop i) = true
  | 0, i, hn => by
    rw [List.drop_eq_nil_of_le (by omega)]
    rfl
  | n + 1, i, hn => by
    rw [uni_drop (show i < l.length by omega), uni_of h n (i + 1) (by omega), h i (by omega)]
    simp
theorem nd_of {l : List (List DV)} (h : ∀ k (hk : k < l.length), fI l (idO l[k]) = (k : Int)) : ND l := by
  unfold ND
  rw [List.pairwise_iff_getElem]
  intro i j hi hj hij he
  have h1 := h i hi
  rw [he, h j hj] at h1
  omega
theorem nd_fI {l : List (List DV)} (h : ND l) (k : Nat) (hk : k < l.length) : fI l (idO l[k]) = (k : Int) := by
  have hl : l = l.take k ++ l[k] :: l.drop (k + 1) := by rw [← List.drop_eq_getElem_cons hk, List.take_append_drop]
  have hk2 : (l.take k).length = k := by rw [List.length_take]; omega
  have := fI_app (l.drop (k + 1)) (p := l[k]) rfl (l.take k) (fun a ha => by
    have h' := h
    unfold ND at h'
    rw [hl] at h'
    exact (List.pairwise_append.1 h').2.2 a ha _ (List.mem_cons.2 (.inl rfl)))
  rw [← hl, hk2] at this
  exact this
theorem isP_iff (l : List (List DV)) : isP l = true ↔ ND l ∧ l.length ≤ 40 ∧ l.Pairwise (fun a b => ahB a b = true) := by
  unfold isP
  rw [Bool.and_eq_true, Bool.and_eq_true, decide_eq_true_eq, sort_pw]
  constructor
  · rintro ⟨h1, h2⟩
    exact ⟨nd_of fun k hk => (uni_to h1 k hk).1, h2⟩
  · rintro ⟨h1, h2⟩
    refine ⟨?_, h2⟩
    have := uni_of (fun k hk => nd_fI h1 k hk) (l.length - 0) 0 rfl
    rwa [List.drop_zero] at this
theorem ins_pw {r : List DV → List DV → Prop} {R : List (List DV)} (h : R.Pairwise r) (b : Nat) {p : List DV} (h1 : ∀ a ∈ R.take b, r a p) (h2 : ∀ d ∈ R.drop b, r p d) : (R.take b ++ p :: R.drop b).Pairwise r := by
  have h' := h
  rw [← List.take_append_drop b R] at h'
  obtain ⟨k1, k2, k3⟩ := List.pairwise_append.1 h'
  refine List.pairwise_append.2 ⟨k1, List.pairwise_cons.2 ⟨h2, k2⟩, fun a ha d hd => ?_⟩
  rcases List.mem_cons.1 hd with rfl | hd
  · exact h1 a ha
  · exact k3 a ha d hd
/-- behind the place of a payment stands none that may stand ahead of it -/
theorem bh_drop {R : List (List DV)} (h : R.Pairwise (fun a b => ahB a b = true)) (p : List DV) : ∀ d ∈ R.drop (bhP R p), ahB d p = false := fun d hd => by
  obtain ⟨k1, _, k3⟩ := tw_spec (fun e => ahB e p) R
  change bhP R p ≤ R.length at k1
  change ∀ h : bhP R p < R.length, ahB R[bhP R p] p = false at k3
  obtain ⟨i, hi, rfl⟩ := List.getElem_of_mem hd
  rw [List.length_drop] at hi
  rw [List.getElem_drop]
  cases hc : ahB R[bhP R p + i] p with
  | false => rfl
  | true =>
    have h0 := k3 (by omega)
    by_cases h00 : i = 0
    · subst h00
      rw [← hc, ← h0]
      simp
    · have := List.pairwise_iff_getElem.1 h (bhP R p) (bhP R p + i) (by omega) (by omega) (by omega)
      rw [ah_trans this hc] at h0
      cases h0
theorem bh_take (R : List (List DV)) (p : List DV) : ∀ a ∈ R.take (bhP R p), ahB a p = true := fun a ha => by
  obtain ⟨k1, k2, _⟩ := tw_spec (fun e => ahB e p) R
  change ∀ i (_ : i < bhP R p) (h2 : i < R.length), ahB R[i] p = true at k2
  obtain ⟨i, hi, rfl⟩ := List.getElem_of_mem ha
  rw [List.length_take] at hi
  rw [List.getElem_take]
  exact k2 i (by omega) (by omega)
/-- one taken out -/
theorem take_out {es : List (List DV)} (h : isP es = true) {j : Nat} (hj : j < es.length) :
    fI es (idO es[j]) = (j : Int) ∧ dropL es (idO es[j]) = es.take j ++ es.drop (j + 1) ∧ dropP es (idO es[j]) = es[j] ∧ dropE es (idO es[j]) = 0 ∧
    ND (es.take j ++ es.drop (j + 1)) ∧ (es.take j ++ es.drop (j + 1)).Pairwise (fun a b => ahB a b = true) ∧ (∀ a ∈ es.take j ++ es.drop (j + 1), idO a ≠ idO es[j]) ∧ (es.take j ++ es.drop (j + 1)).length + 1 = es.length := by
  obtain ⟨h1, h2, h3⟩ := (isP_iff es).1 h
  have hf := nd_fI h1 j hj
  have hn : decide (fI es (idO es[j]) < 0) = false := decide_eq_false (by omega)
  have hl : es = es.take j ++ es[j] :: es.drop (j + 1) := by rw [← List.drop_eq_getElem_cons hj, List.take_append_drop]
  have hs : List.Sublist (es.take j ++ es.drop (j + 1)) es := by
    conv => rhs; rw [hl]
    exact List.Sublist.append_left (List.sublist_cons_self _ _) _
  refine ⟨hf, ?_, ?_, ?_, h1.sublist hs, h3.sublist hs, fun a ha => ?_, ?_⟩
  · unfold dropL
    rw [hn, hf]
    rfl
  · unfold dropP
    rw [hn, hf, Int.toNat_natCast, List.getElem?_eq_getElem hj]
    rfl
  · unfold dropE
    rw [hn]
    rfl
  · have h1' := h1
    unfold ND at h1'
    rw [hl] at h1'
    obtain ⟨k1, k2, k3⟩ := List.pairwise_append.1 h1'
    rcases List.mem_append.1 ha with ha | ha
    · exact k3 a ha _ (List.mem_cons.2 (.inl rfl))
    · exact ((List.pairwise_cons.1 k2).1 a ha).symm
  · rw [List.length_append, List.length_take, List.length_drop]
    omega
/-- one put in, behind all like it -/
theorem put_in {R : List (List DV)} (h1 : ND R) (h2 : R.Pairwise (fun a b => ahB a b = true)) (hl : R.length < 40) {p : List DV} (hp : ∀ a ∈ R, idO a ≠ idO p) :
    putL R p = R.take (bhP R p) ++ p :: R.drop (bhP R p) ∧ putE R p = 0 ∧ isP (putL R p) = true ∧ fI (putL R p) (idO p) = (bhP R p : Nat) ∧ dropL (putL R p) (idO p) = R ∧ (putL R p)[bhP R p]? = some p := by
  have hno : decide (0 ≤ fI R (idO p)) = false := decide_eq_false (by have := fI_no hp; omega)
  have hb := bh_le R p
  have e : putL R p = R.take (bhP R p) ++ p :: R.drop (bhP R p) := by
    unfold putL
    rw [hno, decide_eq_false (show ¬ 40 ≤ R.length by omega)]
    rfl
  have hT : ∀ a ∈ R.take (bhP R p), idO a ≠ idO p := fun a ha => hp a (List.mem_of_mem_take ha)
  have hTl : (R.take (bhP R p)).length = bhP R p := by rw [List.length_take]; omega
  have hf : fI (putL R p) (idO p) = (bhP R p : Nat) := by
    rw [e, fI_app _ rfl _ hT, hTl]
  refine ⟨e, ?_, ?_, hf, ?_, ?_⟩
  · unfold putE
    rw [hno, decide_eq_false (show ¬ 40 ≤ R.length by omega)]
    rfl
  · rw [isP_iff, e]
    refine ⟨ins_pw h1 _ hT (fun d hd => (hp d (List.mem_of_mem_drop hd)).symm), ?_, ins_pw h2 _ (bh_take R p) fun d hd => ah_total (bh_drop h2 p d hd)⟩
    rw [List.length_append, List.length_cons, List.length_take, List.length_drop]
    omega
  · unfold dropL delB
    rw [hf, decide_eq_false (show ¬ ((bhP R p : Nat) : Int) < 0 by omega), cond_false, Int.toNat_natCast, e]
    have q1 : (R.take (bhP R p) ++ p :: R.drop (bhP R p)).take (bhP R p) = R.take (bhP R p) := by
      rw [List.take_append_of_le_length (by omega), List.take_of_length_le (by omega)]
    have q2 : (R.take (bhP R p) ++ p :: R.drop (bhP R p)).drop (bhP R p + 1) = R.drop (bhP R p) := by
      rw [List.drop_append, List.drop_eq_nil_of_le (by omega), hTl, List.nil_append, show bhP R p + 1 - bhP R p = 1 by omega]
      rfl
    rw [q1, q2, List.take_append_drop]
  · rw [e, List.getElem?_append_right (by omega), hTl, Nat.sub_self]
    rfl
/-- of a row: one that is there, taken out -/
theorem take_id {es : List (List DV)} (h : isP es = true) {id : Int} (hf : ¬ fI es id < 0) :
    dropE es id = 0 ∧ ND (dropL es id) ∧ (dropL es id).Pairwise (fun a b => ahB a b = true) ∧ (∀ a ∈ dropL es id, idO a ≠ id) ∧ (dropL es id).length + 1 = es.length ∧ idO (dropP es id) = id ∧ (dropL es id).length < 40 := by
  obtain ⟨hi, hid⟩ := fI_at es id (by omega)
  obtain ⟨t1, t2, t3, t4, t5, t6, t7, t8⟩ := take_out h hi
  have h40 := ((isP_iff es).1 h).2.1
  rw [hid] at t1 t2 t3 t4 t7
  rw [t2, t3, t4]
  exact ⟨rfl, t5, t6, t7, t8, hid, by omega⟩
end Go.Proofs.Ytjejjokdbbedlaa
