/- What is known of the functions on rows of numbers, by their runs. No condition. -/
import Derived.Test.YtngghbloijkfoaaCode
import Derived.Test.YtngghbloijkfoaaVmS
import Derived.Test.YtngghbloijkfoaaInsD36
namespace Go.Proofs.Ytngghbloijkfoaa
open Go Go.Proofs Go.RowKit Vm
set_option linter.unusedVariables false
set_option linter.unusedSimpArgs false
abbrev z1 : List DV := [.int .i64 0]
def lNo : LSpec := fun _ => .no
def lspN (ks : List Nat) (l : Nat → LSpec) (k : Nat) : Option LSpec := if ks.contains k then some (l k) else none
def lsp0 : Nat → Option LSpec := fun _ => none
def S110 (x : DV) (i : Int) : St := St.of [(0, .d x), (3, .d (.int .i64 i))] []
def S120 (x y : DV) (last N i : Int) : St := St.of [(0, .d x), (3, .d (.int .i64 last)), (6, .d y), (7, .d (.int .i64 N)), (8, .d (.int .i64 i))] []
def S180 (x : DV) (id i : Int) : St := St.of [(0, .d x), (1, .d (.int .i64 id)), (5, .d (.int .i64 i))] []
def S160 (x y : DV) (i : Int) : St := St.of [(0, .d x), (1, .d y), (5, .d (.int .i64 i))] []
def S150 (x : DV) (id i : Int) : St := St.of [(0, .d x), (1, .d (.int .i64 id)), (6, .d (.int .i64 i))] []
def S350 (x : DV) (id n i j : Int) : St := St.of [(0, .d x), (1, .d (.int .i64 id)), (6, .d (.int .i64 n)), (7, .d (.int .i64 i)), (8, .d (.int .i64 j))] []
def cel (e : List DV) : Int := (cellA e 0).toI
def hasB (es : List (List DV)) (id : Int) : Bool := es.any fun e => cel e == id
def ascB : Int → List (List DV) → Bool
  | _, [] => true
  | last, e :: l => !decide (cel e ≤ last) && ascB (cel e) l
def isB (es : List (List DV)) : Bool := ascB 0 es && decide (es.length ≤ 200)
def vals (es : List (List DV)) : List Int := es.map cel
def sameB (a b : List (List DV)) : Bool := decide (vals a = vals b)
def posB (es : List (List DV)) (id : Int) : Nat := (es.takeWhile fun e => decide (cel e < id)).length
def I1 (n : Nat) (x : DV) : Prop := Sl 1 x ∧ (∀ e ∈ rowsA x, okRow z1 e = true) ∧ (rowsA x).length ≤ n
def insB (es : List (List DV)) (id : Int) : List (List DV) := es.take (posB es id) ++ ([.int .i64 id] :: es.drop (posB es id))
def l110 : LSpec := fun st => match st.env 0 with
  | .d x => .br (ascB 0 (rowsA x)) (.one (.ex 0) (St.of [(0, .d x)] [])) (.one .ret (St.of [(2, .d (.bool false))] []))
  | _ => .no
def l180 : LSpec := fun st => match st.env 0, st.env 1 with
  | .d x, .d (.int _ id) => .br (hasB (rowsA x) id) (.one .ret (St.of [(4, .d (.bool true))] [])) (.one (.ex 0) (St.of [] []))
  | _, _ => .no
def l160 : LSpec := fun st => match st.env 0, st.env 1 with
  | .d x, .d y => .br (sameB (rowsA x) (rowsA y)) (.one (.ex 0) (St.of [] [])) (.one .ret (St.of [(4, .d (.bool false))] []))
  | _, _ => .no
def l150 : LSpec := fun st => match st.env 0, st.env 1 with
  | .d x, .d (.int _ id) => .one (.ex 0) (St.of [(0, .d x), (1, .d (.int .i64 id)), (6, .d (.int .i64 (posB (rowsA x) id)))] [])
  | _, _ => .no
def l350 : LSpec := fun st => match st.env 0, st.env 1, st.env 6 with
  | .d x, .d (.int _ id), .d (.int _ n) => .one (.ex 0) (St.of [(0, .d x), (1, .d (.int .i64 id)), (6, .d (.int .i64 n)), (7, .d (.int .i64 (posB (rowsA x) id)))] [])
  | _, _, _ => .no
def lx (k : Nat) : Option LSpec := if k = 110 then some l110 else if k = 120 then some l110 else if k = 150 then some l150 else if k = 160 then some l160 else if k = 180 then some l180 else if k = 350 then some l350 else none
theorem s110 (L n : Nat) (es : List (List DV)) (i : Nat) (k : Kont) : LB tab noSp lx L (n+4) h110 c11l0 (S110 (.sla false 1 es) i) k =
   (bif decide ((↑i : Int) < (↑es.length : Int)) then
 lookK es[i]? fun (e1 : List DV) =>
 bif okRow [DV.int .i64 0] e1 then
 bif decide ((↑i : Int) > (0 : Int)) then
 bif decide ((cellA e1 0).toI < (1 : Int)) then k Ex.ret (St.of [(2, AV.d (DV.bool false))] [])
 else
 lookK es[i]? fun (e6 : List DV) =>
 bif okRow [DV.int .i64 0] e6 then
 bif decide ((0 : Int) ≤ IntKind.i64.wrap ((↑i : Int) - (1 : Int))) then
 lookK es[(IntKind.i64.wrap ((↑i : Int) - (1 : Int))).toNat]? fun (e10 : List DV) =>
 bif okRow [DV.int .i64 0] e10 then
 bif decide ((cellA e6 0).toI ≤ (cellA e10 0).toI) then k Ex.ret (St.of [(2, AV.d (DV.bool false))] [])
 else
 k Ex.nrm
 (St.of
 [(0, AV.d (DV.sla false 1 es)), (3, AV.d (DV.int .i64 (IntKind.i64.wrap ((↑i : Int) + (1 : Int)))))]
 [])
 else none
 else none
 else none
 else
 bif bif decide ((cellA e1 0).toI < (1 : Int)) then true else false then k Ex.ret (St.of [(2, AV.d (DV.bool false))] [])
 else
 k Ex.nrm
 (St.of [(0, AV.d (DV.sla false 1 es)), (3, AV.d (DV.int .i64 (IntKind.i64.wrap ((↑i : Int) + (1 : Int)))))] [])
 else none
 else k (Ex.ex (0 : Nat)) (St.of [(0, AV.d (DV.sla false 1 es))] [])) :=
  (show LB tab noSp lx L (n+4) h110 c11l0 (S110 (.sla false 1 es) i) k =
 (cond (decide ((↑i : Int) < (↑es.length : Int)))
 (lookK (es[(↑i : Int).toNat]?)
 fun e1 =>
 (cond (okRow [DV.int .i64 0] e1)
 (cond (decide ((↑i : Int) > (0 : Int)))
 (cond (decide ((cellA e1 0).toI < (1 : Int)))
 (k .ret (St.of [(2, (.d (.bool false)))] []))
 (lookK (es[(↑i : Int).toNat]?)
 fun e6 =>
 (cond (okRow [DV.int .i64 0] e6)
 (cond (decide ((0 : Int) ≤ IntKind.i64.wrap ((↑i : Int) - (1 : Int))))
 (lookK (es[(IntKind.i64.wrap ((↑i : Int) - (1 : Int))).toNat]?)
 fun e10 =>
 (cond (okRow [DV.int .i64 0] e10)
 (cond (decide ((cellA e6 0).toI ≤ (cellA e10 0).toI))
 (k .ret (St.of [(2, (.d (.bool false)))] []))
 (k .nrm (St.of [(0, (.d (.sla false 1 es))), (3, (.d (.int .i64 (IntKind.i64.wrap ((↑i : Int) + (1 : Int))))))] [])))
 none))
 none)
 none)))
 (cond (bif decide ((cellA e1 0).toI < (1 : Int)) then true else false)
 (k .ret (St.of [(2, (.d (.bool false)))] []))
 (k .nrm (St.of [(0, (.d (.sla false 1 es))), (3, (.d (.int .i64 (IntKind.i64.wrap ((↑i : Int) + (1 : Int))))))] []))))
 none))
 (k (.ex 0) (St.of [(0, (.d (.sla false 1 es)))] []))) from by kernel_rfl).trans (by first | rfl | (simp only [decide_true, decide_false, eq_self, and_true, true_and, and_self, cond_true, cond_false, Nat.le_refl, Int.le_refl, Option.getD_some, Option.getD_none, Int.toNat_natCast, List.take_length, List.drop_zero, Nat.zero_add, List.nil_append, List.all_nil, List.append_nil, Bool.true_and, Bool.and_true, rowsA_sla, rowsA_sl, rowsA_nil, minus_zero, nat_le_cast, nat_nonneg, Option.isSome_some, Option.isSome_none, Bool.false_eq_true, false_and, and_false, if_true, if_false, implies_true, Int.toNat_zero, Bool.not_false, Bool.not_true, bne_self_eq_false]; done) | (simp only [decide_true, decide_false, eq_self, and_true, true_and, and_self, cond_true, cond_false, Nat.le_refl, Int.le_refl, Option.getD_some, Option.getD_none, Int.toNat_natCast, List.take_length, List.drop_zero, Nat.zero_add, List.nil_append, List.all_nil, List.append_nil, Bool.true_and, Bool.and_true, rowsA_sla, rowsA_sl, rowsA_nil, minus_zero, nat_le_cast, nat_nonneg, Option.isSome_some, Option.isSome_none, Bool.false_eq_true, false_and, and_false, if_true, if_false, implies_true, Int.toNat_zero, Bool.not_false, Bool.not_true, bne_self_eq_false]; rfl))
theorem s120 (L n : Nat) (es : List (List DV)) (last N : Int) (i : Nat) (k : Kont) : LB tab noSp lx L (n+4) h120 c12l0 (S120 (.sla false 1 es) (.sla false 1 es) last N i) k =
   (bif decide ((↑i : Int) < N) then
 lookK es[i]? fun (e1 : List DV) =>
 bif okRow [DV.int .i64 0] e1 then
 bif decide ((cellA e1 0).toI ≤ last) then k Ex.ret (St.of [(2, AV.d (DV.bool false))] [])
 else
 k Ex.nrm
 (St.of
 [(0, AV.d (DV.sla false 1 es)), (3, AV.d (DV.int .i64 (cellA e1 0).toI)),
 ((6 : Nat), AV.d (DV.sla false 1 es)), (7, AV.d (DV.int .i64 N)),
 ((8 : Nat), AV.d (DV.int .i64 (IntKind.i64.wrap ((↑i : Int) + (1 : Int)))))]
 [])
 else none
 else k (Ex.ex (0 : Nat)) (St.of [(0, AV.d (DV.sla false 1 es))] [])) :=
  (show LB tab noSp lx L (n+4) h120 c12l0 (S120 (.sla false 1 es) (.sla false 1 es) last N i) k =
 (cond (decide ((↑i : Int) < N))
 (lookK (es[(↑i : Int).toNat]?)
 fun e1 =>
 (cond (okRow [DV.int .i64 0] e1)
 (cond (decide ((cellA e1 0).toI ≤ last))
 (k .ret (St.of [(2, (.d (.bool false)))] []))
 (k .nrm (St.of [(0, (.d (.sla false 1 es))), (3, (.d (.int .i64 ((cellA e1 0).toI)))), (6, (.d (.sla false 1 es))), (7, (.d (.int .i64 N))), (8, (.d (.int .i64 (IntKind.i64.wrap ((↑i : Int) + (1 : Int))))))] [])))
 none))
 (k (.ex 0) (St.of [(0, (.d (.sla false 1 es)))] []))) from by kernel_rfl).trans (by first | rfl | (simp only [decide_true, decide_false, eq_self, and_true, true_and, and_self, cond_true, cond_false, Nat.le_refl, Int.le_refl, Option.getD_some, Option.getD_none, Int.toNat_natCast, List.take_length, List.drop_zero, Nat.zero_add, List.nil_append, List.all_nil, List.append_nil, Bool.true_and, Bool.and_true, rowsA_sla, rowsA_sl, rowsA_nil, minus_zero, nat_le_cast, nat_nonneg, Option.isSome_some, Option.isSome_none, Bool.false_eq_true, false_and, and_false, if_true, if_false, implies_true, Int.toNat_zero, Bool.not_false, Bool.not_true, bne_self_eq_false]; done) | (simp only [decide_true, decide_false, eq_self, and_true, true_and, and_self, cond_true, cond_false, Nat.le_refl, Int.le_refl, Option.getD_some, Option.getD_none, Int.toNat_natCast, List.take_length, List.drop_zero, Nat.zero_add, List.nil_append, List.all_nil, List.append_nil, Bool.true_and, Bool.and_true, rowsA_sla, rowsA_sl, rowsA_nil, minus_zero, nat_le_cast, nat_nonneg, Option.isSome_some, Option.isSome_none, Bool.false_eq_true, false_and, and_false, if_true, if_false, implies_true, Int.toNat_zero, Bool.not_false, Bool.not_true, bne_self_eq_false]; rfl))
theorem s180 (L n : Nat) (es : List (List DV)) (id : Int) (i : Nat) (k : Kont) : LB tab noSp lx L (n+4) h180 c18l0 (S180 (.sla false 1 es) id i) k =
   (bif decide ((↑i : Int) < (↑es.length : Int)) then
 lookK es[i]? fun (e1 : List DV) =>
 bif okRow [DV.int .i64 0] e1 then
 bif (cellA e1 0).toI == id then k Ex.ret (St.of [(4, AV.d (DV.bool true))] [])
 else
 k Ex.nrm
 (St.of
 [(0, AV.d (DV.sla false 1 es)), (1, AV.d (DV.int .i64 id)),
 ((5 : Nat), AV.d (DV.int .i64 (IntKind.i64.wrap ((↑i : Int) + (1 : Int)))))]
 [])
 else none
 else k (Ex.ex (0 : Nat)) (St.of [] [])) :=
  (show LB tab noSp lx L (n+4) h180 c18l0 (S180 (.sla false 1 es) id i) k =
 (cond (decide ((↑i : Int) < (↑es.length : Int)))
 (lookK (es[(↑i : Int).toNat]?)
 fun e1 =>
 (cond (okRow [DV.int .i64 0] e1)
 (cond ((cellA e1 0).toI == id)
 (k .ret (St.of [(4, (.d (.bool true)))] []))
 (k .nrm (St.of [(0, (.d (.sla false 1 es))), (1, (.d (.int .i64 id))), (5, (.d (.int .i64 (IntKind.i64.wrap ((↑i : Int) + (1 : Int))))))] [])))
 none))
 (k (.ex 0) (St.of [] []))) from by kernel_rfl).trans (by first | rfl | (simp only [decide_true, decide_false, eq_self, and_true, true_and, and_self, cond_true, cond_false, Nat.le_refl, Int.le_refl, Option.getD_some, Option.getD_none, Int.toNat_natCast, List.take_length, List.drop_zero, Nat.zero_add, List.nil_append, List.all_nil, List.append_nil, Bool.true_and, Bool.and_true, rowsA_sla, rowsA_sl, rowsA_nil, minus_zero, nat_le_cast, nat_nonneg, Option.isSome_some, Option.isSome_none, Bool.false_eq_true, false_and, and_false, if_true, if_false, implies_true, Int.toNat_zero, Bool.not_false, Bool.not_true, bne_self_eq_false]; done) | (simp only [decide_true, decide_false, eq_self, and_true, true_and, and_self, cond_true, cond_false, Nat.le_refl, Int.le_refl, Option.getD_some, Option.getD_none, Int.toNat_natCast, List.take_length, List.drop_zero, Nat.zero_add, List.nil_append, List.all_nil, List.append_nil, Bool.true_and, Bool.and_true, rowsA_sla, rowsA_sl, rowsA_nil, minus_zero, nat_le_cast, nat_nonneg, Option.isSome_some, Option.isSome_none, Bool.false_eq_true, false_and, and_false, if_true, if_false, implies_true, Int.toNat_zero, Bool.not_false, Bool.not_true, bne_self_eq_false]; rfl))
theorem s160 (L n : Nat) (es es2 : List (List DV)) (i : Nat) (k : Kont) : LB tab noSp lx L (n+4) h160 c16l0 (S160 (.sla false 1 es) (.sla false 1 es2) i) k =
   (bif decide ((↑i : Int) < (↑es.length : Int)) then
 lookK es[i]? fun (e1 : List DV) =>
 bif okRow [DV.int .i64 0] e1 then
 lookK es2[i]? fun (e4 : List DV) =>
 bif okRow [DV.int .i64 0] e4 then
 bif (cellA e1 0).toI != (cellA e4 0).toI then k Ex.ret (St.of [(4, AV.d (DV.bool false))] [])
 else
 k Ex.nrm
 (St.of
 [(0, AV.d (DV.sla false 1 es)), (1, AV.d (DV.sla false 1 es2)),
 ((5 : Nat), AV.d (DV.int .i64 (IntKind.i64.wrap ((↑i : Int) + (1 : Int)))))]
 [])
 else none
 else none
 else k (Ex.ex (0 : Nat)) (St.of [] [])) :=
  (show LB tab noSp lx L (n+4) h160 c16l0 (S160 (.sla false 1 es) (.sla false 1 es2) i) k =
 (cond (decide ((↑i : Int) < (↑es.length : Int)))
 (lookK (es[(↑i : Int).toNat]?)
 fun e1 =>
 (cond (okRow [DV.int .i64 0] e1)
 (lookK (es2[(↑i : Int).toNat]?)
 fun e4 =>
 (cond (okRow [DV.int .i64 0] e4)
 (cond ((cellA e1 0).toI != (cellA e4 0).toI)
 (k .ret (St.of [(4, (.d (.bool false)))] []))
 (k .nrm (St.of [(0, (.d (.sla false 1 es))), (1, (.d (.sla false 1 es2))), (5, (.d (.int .i64 (IntKind.i64.wrap ((↑i : Int) + (1 : Int))))))] [])))
 none))
 none))
 (k (.ex 0) (St.of [] []))) from by kernel_rfl).trans (by first | rfl | (simp only [decide_true, decide_false, eq_self, and_true, true_and, and_self, cond_true, cond_false, Nat.le_refl, Int.le_refl, Option.getD_some, Option.getD_none, Int.toNat_natCast, List.take_length, List.drop_zero, Nat.zero_add, List.nil_append, List.all_nil, List.append_nil, Bool.true_and, Bool.and_true, rowsA_sla, rowsA_sl, rowsA_nil, minus_zero, nat_le_cast, nat_nonneg, Option.isSome_some, Option.isSome_none, Bool.false_eq_true, false_and, and_false, if_true, if_false, implies_true, Int.toNat_zero, Bool.not_false, Bool.not_true, bne_self_eq_false]; done) | (simp only [decide_true, decide_false, eq_self, and_true, true_and, and_self, cond_true, cond_false, Nat.le_refl, Int.le_refl, Option.getD_some, Option.getD_none, Int.toNat_natCast, List.take_length, List.drop_zero, Nat.zero_add, List.nil_append, List.all_nil, List.append_nil, Bool.true_and, Bool.and_true, rowsA_sla, rowsA_sl, rowsA_nil, minus_zero, nat_le_cast, nat_nonneg, Option.isSome_some, Option.isSome_none, Bool.false_eq_true, false_and, and_false, if_true, if_false, implies_true, Int.toNat_zero, Bool.not_false, Bool.not_true, bne_self_eq_false]; rfl))
theorem s150 (L n : Nat) (es : List (List DV)) (id : Int) (i : Nat) (k : Kont) : LB tab noSp lx L (n+4) h150 c15l0 (S150 (.sla false 1 es) id i) k =
   (bif decide ((↑i : Int) < (↑es.length : Int)) then
 lookK es[i]? fun (e1 : List DV) =>
 bif okRow [DV.int .i64 0] e1 then
 bif decide ((cellA e1 0).toI < id) then
 k Ex.nrm
 (St.of
 [(0, AV.d (DV.sla false 1 es)), (1, AV.d (DV.int .i64 id)),
 ((6 : Nat), AV.d (DV.int .i64 (IntKind.i64.wrap ((↑i : Int) + (1 : Int)))))]
 [])
 else
 k (Ex.ex (0 : Nat))
 (St.of
 [(0, AV.d (DV.sla false 1 es)), (1, AV.d (DV.int .i64 id)), (6, AV.d (DV.int .i64 (↑i : Int)))] [])
 else none
 else
 k (Ex.ex (0 : Nat))
 (St.of [(0, AV.d (DV.sla false 1 es)), (1, AV.d (DV.int .i64 id)), (6, AV.d (DV.int .i64 (↑i : Int)))] [])) :=
  (show LB tab noSp lx L (n+4) h150 c15l0 (S150 (.sla false 1 es) id i) k =
 (cond (decide ((↑i : Int) < (↑es.length : Int)))
 (lookK (es[(↑i : Int).toNat]?)
 fun e1 =>
 (cond (okRow [DV.int .i64 0] e1)
 (cond (decide ((cellA e1 0).toI < id))
 (k .nrm (St.of [(0, (.d (.sla false 1 es))), (1, (.d (.int .i64 id))), (6, (.d (.int .i64 (IntKind.i64.wrap ((↑i : Int) + (1 : Int))))))] []))
 (k (.ex 0) (St.of [(0, (.d (.sla false 1 es))), (1, (.d (.int .i64 id))), (6, (.d (.int .i64 ((↑i : Int)))))] [])))
 none))
 (k (.ex 0) (St.of [(0, (.d (.sla false 1 es))), (1, (.d (.int .i64 id))), (6, (.d (.int .i64 ((↑i : Int)))))] []))) from by kernel_rfl).trans (by first | rfl | (simp only [decide_true, decide_false, eq_self, and_true, true_and, and_self, cond_true, cond_false, Nat.le_refl, Int.le_refl, Option.getD_some, Option.getD_none, Int.toNat_natCast, List.take_length, List.drop_zero, Nat.zero_add, List.nil_append, List.all_nil, List.append_nil, Bool.true_and, Bool.and_true, rowsA_sla, rowsA_sl, rowsA_nil, minus_zero, nat_le_cast, nat_nonneg, Option.isSome_some, Option.isSome_none, Bool.false_eq_true, false_and, and_false, if_true, if_false, implies_true, Int.toNat_zero, Bool.not_false, Bool.not_true, bne_self_eq_false]; done) | (simp only [decide_true, decide_false, eq_self, and_true, true_and, and_self, cond_true, cond_false, Nat.le_refl, Int.le_refl, Option.getD_some, Option.getD_none, Int.toNat_natCast, List.take_length, List.drop_zero, Nat.zero_add, List.nil_append, List.all_nil, List.append_nil, Bool.true_and, Bool.and_true, rowsA_sla, rowsA_sl, rowsA_nil, minus_zero, nat_le_cast, nat_nonneg, Option.isSome_some, Option.isSome_none, Bool.false_eq_true, false_and, and_false, if_true, if_false, implies_true, Int.toNat_zero, Bool.not_false, Bool.not_true, bne_self_eq_false]; rfl))
theorem s350 (L n : Nat) (es : List (List DV)) (id N : Int) (i j : Nat) (k : Kont) : LB tab noSp lx L (n+4) h350 c35l0 (S350 (.sla false 1 es) id N i j) k =
   (bif decide ((↑i : Int) < (↑j : Int)) then
 bif
 decide
 ((0 : Int) ≤
 IntKind.i64.wrap ((IntKind.u64.wrap (IntKind.i64.wrap ((↑i : Int) + (↑j : Int)))).fdiv ((2 : Int) ^ min (1 : Nat) IntKind.u64.bits))) then
 lookK es[(IntKind.i64.wrap ((IntKind.u64.wrap (IntKind.i64.wrap ((↑i : Int) + (↑j : Int)))).fdiv ((2 : Int) ^ min (1 : Nat) IntKind.u64.bits))).toNat]?
 fun (e2 : List DV) =>
 bif okRow [DV.int .i64 0] e2 then
 bif decide ((cellA e2 0).toI < id) then
 k Ex.nrm
 (St.of
 [(0, AV.d (DV.sla false 1 es)), (1, AV.d (DV.int .i64 id)), (6, AV.d (DV.int .i64 N)),
 ((7 : Nat),
 AV.d
 (DV.int .i64
 (IntKind.i64.wrap
 (IntKind.i64.wrap
 ((IntKind.u64.wrap (IntKind.i64.wrap ((↑i : Int) + (↑j : Int)))).fdiv ((2 : Int) ^ min (1 : Nat) IntKind.u64.bits)) +
 (1 : Int))))),
 ((8 : Nat), AV.d (DV.int .i64 (↑j : Int)))]
 [])
 else
 k Ex.nrm
 (St.of
 [(0, AV.d (DV.sla false 1 es)), (1, AV.d (DV.int .i64 id)), (6, AV.d (DV.int .i64 N)),
 ((7 : Nat), AV.d (DV.int .i64 (↑i : Int))),
 ((8 : Nat),
 AV.d
 (DV.int .i64
 (IntKind.i64.wrap
 ((IntKind.u64.wrap (IntKind.i64.wrap ((↑i : Int) + (↑j : Int)))).fdiv ((2 : Int) ^ min (1 : Nat) IntKind.u64.bits)))))]
 [])
 else none
 else none
 else
 k (Ex.ex (0 : Nat))
 (St.of
 [(0, AV.d (DV.sla false 1 es)), (1, AV.d (DV.int .i64 id)), (6, AV.d (DV.int .i64 N)),
 ((7 : Nat), AV.d (DV.int .i64 (↑i : Int)))]
 [])) :=
  (show LB tab noSp lx L (n+4) h350 c35l0 (S350 (.sla false 1 es) id N i j) k =
 (cond (decide ((↑i : Int) < (↑j : Int)))
 (cond (decide ((0 : Int) ≤ IntKind.i64.wrap ((IntKind.u64.wrap (IntKind.i64.wrap ((↑i : Int) + (↑j : Int)))).fdiv ((2 : Int) ^ min (1 : Nat) IntKind.u64.bits))))
 (lookK (es[(IntKind.i64.wrap ((IntKind.u64.wrap (IntKind.i64.wrap ((↑i : Int) + (↑j : Int)))).fdiv ((2 : Int) ^ min (1 : Nat) IntKind.u64.bits))).toNat]?)
 fun e2 =>
 (cond (okRow [DV.int .i64 0] e2)
 (cond (bif bif (cellA e2 0).toI != (cellA e2 0).toI then !id != id else false then true else decide ((cellA e2 0).toI < id))
 (k .nrm (St.of [(0, (.d (.sla false 1 es))), (1, (.d (.int .i64 id))), (6, (.d (.int .i64 N))), (7, (.d (.int .i64 (IntKind.i64.wrap (IntKind.i64.wrap ((IntKind.u64.wrap (IntKind.i64.wrap ((↑i : Int) + (↑j : Int)))).fdiv ((2 : Int) ^ min (1 : Nat) IntKind.u64.bits)) + (1 : Int)))))), (8, (.d (.int .i64 ((↑j : Int)))))] []))
 (k .nrm (St.of [(0, (.d (.sla false 1 es))), (1, (.d (.int .i64 id))), (6, (.d (.int .i64 N))), (7, (.d (.int .i64 ((↑i : Int))))), (8, (.d (.int .i64 (IntKind.i64.wrap ((IntKind.u64.wrap (IntKind.i64.wrap ((↑i : Int) + (↑j : Int)))).fdiv ((2 : Int) ^ min (1 : Nat) IntKind.u64.bits))))))] [])))
 none))
 none)
 (k (.ex 0) (St.of [(0, (.d (.sla false 1 es))), (1, (.d (.int .i64 id))), (6, (.d (.int .i64 N))), (7, (.d (.int .i64 ((↑i : Int)))))] []))) from by kernel_rfl).trans (by first | rfl | (simp only [decide_true, decide_false, eq_self, and_true, true_and, and_self, cond_true, cond_false, Nat.le_refl, Int.le_refl, Option.getD_some, Option.getD_none, Int.toNat_natCast, List.take_length, List.drop_zero, Nat.zero_add, List.nil_append, List.all_nil, List.append_nil, Bool.true_and, Bool.and_true, rowsA_sla, rowsA_sl, rowsA_nil, minus_zero, nat_le_cast, nat_nonneg, Option.isSome_some, Option.isSome_none, Bool.false_eq_true, false_and, and_false, if_true, if_false, implies_true, Int.toNat_zero, Bool.not_false, Bool.not_true, bne_self_eq_false]; done) | (simp only [decide_true, decide_false, eq_self, and_true, true_and, and_self, cond_true, cond_false, Nat.le_refl, Int.le_refl, Option.getD_some, Option.getD_none, Int.toNat_natCast, List.take_length, List.drop_zero, Nat.zero_add, List.nil_append, List.all_nil, List.append_nil, Bool.true_and, Bool.and_true, rowsA_sla, rowsA_sl, rowsA_nil, minus_zero, nat_le_cast, nat_nonneg, Option.isSome_some, Option.isSome_none, Bool.false_eq_true, false_and, and_false, if_true, if_false, implies_true, Int.toNat_zero, Bool.not_false, Bool.not_true, bne_self_eq_false]; rfl))
theorem t11 (L n : Nat) (es : List (List DV)) : FK tab noSp lx L (n+8) 11 [.sla false 1 es] =
   (bif ascB (0 : Int) es then
 need
 (LoopOk (LB tab noSp lx L (n + (8 : Nat)) h110 c11l0)
 (St.of [(0, AV.d (DV.sla false 1 es)), (3, AV.d (DV.int .i64 0))] [])
 (Ex.ex (0 : Nat), St.of [(0, AV.d (DV.sla false 1 es))] []))
 (some (DV.bool (decide ((↑es.length : Int) ≤ (200 : Int)))))
 else
 need
 (LoopOk (LB tab noSp lx L (n + (8 : Nat)) h110 c11l0)
 (St.of [(0, AV.d (DV.sla false 1 es)), (3, AV.d (DV.int .i64 0))] [])
 (Ex.ret, St.of [(2, AV.d (DV.bool false))] []))
 (some (DV.bool false))) :=
  (show FK tab noSp lx L (n+8) 11 [.sla false 1 es] =
 (cond (ascB (0 : Int) (rowsA (DV.sla false 1 es)))
 (need (LoopOk (LB tab noSp lx L (n + (8 : Nat)) h110 c11l0) (St.of [(0, (.d (.sla false 1 es))), (3, (.d (.int .i64 ((0 : Int)))))] []) ((.ex 0), (St.of [(0, (.d (.sla false 1 es)))] [])))
 (some (.bool (decide ((↑es.length : Int) ≤ (200 : Int))))))
 (need (LoopOk (LB tab noSp lx L (n + (8 : Nat)) h110 c11l0) (St.of [(0, (.d (.sla false 1 es))), (3, (.d (.int .i64 ((0 : Int)))))] []) (.ret, (St.of [(2, (.d (.bool false)))] [])))
 (some (.bool false)))) from by kernel_rfl).trans (by first | rfl | (simp only [decide_true, decide_false, eq_self, and_true, true_and, and_self, cond_true, cond_false, Nat.le_refl, Int.le_refl, Option.getD_some, Option.getD_none, Int.toNat_natCast, List.take_length, List.drop_zero, Nat.zero_add, List.nil_append, List.all_nil, List.append_nil, Bool.true_and, Bool.and_true, rowsA_sla, rowsA_sl, rowsA_nil, minus_zero, nat_le_cast, nat_nonneg, Option.isSome_some, Option.isSome_none, Bool.false_eq_true, false_and, and_false, if_true, if_false, implies_true, Int.toNat_zero, Bool.not_false, Bool.not_true, bne_self_eq_false]; done) | (simp only [decide_true, decide_false, eq_self, and_true, true_and, and_self, cond_true, cond_false, Nat.le_refl, Int.le_refl, Option.getD_some, Option.getD_none, Int.toNat_natCast, List.take_length, List.drop_zero, Nat.zero_add, List.nil_append, List.all_nil, List.append_nil, Bool.true_and, Bool.and_true, rowsA_sla, rowsA_sl, rowsA_nil, minus_zero, nat_le_cast, nat_nonneg, Option.isSome_some, Option.isSome_none, Bool.false_eq_true, false_and, and_false, if_true, if_false, implies_true, Int.toNat_zero, Bool.not_false, Bool.not_true, bne_self_eq_false]; rfl))
theorem t12 (L n : Nat) (es : List (List DV)) : FK tab noSp lx L (n+8) 12 [.sla false 1 es] =
   (bif ascB (0 : Int) es then
 need
 (LoopOk (LB tab noSp lx L (n + (8 : Nat)) h120 c12l0)
 (St.of
 [(0, AV.d (DV.sla false 1 es)), (3, AV.d (DV.int .i64 0)), (6, AV.d (DV.sla false 1 es)),
 ((7 : Nat), AV.d (DV.int .i64 (↑es.length : Int))), (8, AV.d (DV.int .i64 0))]
 [])
 (Ex.ex (0 : Nat), St.of [(0, AV.d (DV.sla false 1 es))] []))
 (some (DV.bool (decide ((↑es.length : Int) ≤ (200 : Int)))))
 else
 need
 (LoopOk (LB tab noSp lx L (n + (8 : Nat)) h120 c12l0)
 (St.of
 [(0, AV.d (DV.sla false 1 es)), (3, AV.d (DV.int .i64 0)), (6, AV.d (DV.sla false 1 es)),
 ((7 : Nat), AV.d (DV.int .i64 (↑es.length : Int))), (8, AV.d (DV.int .i64 0))]
 [])
 (Ex.ret, St.of [(2, AV.d (DV.bool false))] []))
 (some (DV.bool false))) :=
  (show FK tab noSp lx L (n+8) 12 [.sla false 1 es] =
 (cond (ascB (0 : Int) (rowsA (DV.sla false 1 es)))
 (need (LoopOk (LB tab noSp lx L (n + (8 : Nat)) h120 c12l0) (St.of [(0, (.d (.sla false 1 es))), (3, (.d (.int .i64 ((0 : Int))))), (6, (.d (.sla false 1 es))), (7, (.d (.int .i64 ((↑es.length : Int))))), (8, (.d (.int .i64 ((0 : Int)))))] []) ((.ex 0), (St.of [(0, (.d (.sla false 1 es)))] [])))
 (some (.bool (decide ((↑es.length : Int) ≤ (200 : Int))))))
 (need (LoopOk (LB tab noSp lx L (n + (8 : Nat)) h120 c12l0) (St.of [(0, (.d (.sla false 1 es))), (3, (.d (.int .i64 ((0 : Int))))), (6, (.d (.sla false 1 es))), (7, (.d (.int .i64 ((↑es.length : Int))))), (8, (.d (.int .i64 ((0 : Int)))))] []) (.ret, (St.of [(2, (.d (.bool false)))] [])))
 (some (.bool false)))) from by kernel_rfl).trans (by first | rfl | (simp only [decide_true, decide_false, eq_self, and_true, true_and, and_self, cond_true, cond_false, Nat.le_refl, Int.le_refl, Option.getD_some, Option.getD_none, Int.toNat_natCast, List.take_length, List.drop_zero, Nat.zero_add, List.nil_append, List.all_nil, List.append_nil, Bool.true_and, Bool.and_true, rowsA_sla, rowsA_sl, rowsA_nil, minus_zero, nat_le_cast, nat_nonneg, Option.isSome_some, Option.isSome_none, Bool.false_eq_true, false_and, and_false, if_true, if_false, implies_true, Int.toNat_zero, Bool.not_false, Bool.not_true, bne_self_eq_false]; done) | (simp only [decide_true, decide_false, eq_self, and_true, true_and, and_self, cond_true, cond_false, Nat.le_refl, Int.le_refl, Option.getD_some, Option.getD_none, Int.toNat_natCast, List.take_length, List.drop_zero, Nat.zero_add, List.nil_append, List.all_nil, List.append_nil, Bool.true_and, Bool.and_true, rowsA_sla, rowsA_sl, rowsA_nil, minus_zero, nat_le_cast, nat_nonneg, Option.isSome_some, Option.isSome_none, Bool.false_eq_true, false_and, and_false, if_true, if_false, implies_true, Int.toNat_zero, Bool.not_false, Bool.not_true, bne_self_eq_false]; rfl))
theorem t18 (L n : Nat) (es : List (List DV)) (id : Int) : FK tab noSp lx L (n+8) 18 [.sla false 1 es, .int .i64 id] =
   (bif hasB es id then
 need
 (LoopOk (LB tab noSp lx L (n + (8 : Nat)) h180 c18l0)
 (St.of [(0, AV.d (DV.sla false 1 es)), (1, AV.d (DV.int .i64 id)), (5, AV.d (DV.int .i64 0))] [])
 (Ex.ret, St.of [(4, AV.d (DV.bool true))] []))
 (some (DV.bool true))
 else
 need
 (LoopOk (LB tab noSp lx L (n + (8 : Nat)) h180 c18l0)
 (St.of [(0, AV.d (DV.sla false 1 es)), (1, AV.d (DV.int .i64 id)), (5, AV.d (DV.int .i64 0))] [])
 (Ex.ex (0 : Nat), St.of [] []))
 (some (DV.bool false))) :=
  (show FK tab noSp lx L (n+8) 18 [.sla false 1 es, .int .i64 id] =
 (cond (hasB (rowsA (DV.sla false 1 es)) id)
 (need (LoopOk (LB tab noSp lx L (n + (8 : Nat)) h180 c18l0) (St.of [(0, (.d (.sla false 1 es))), (1, (.d (.int .i64 id))), (5, (.d (.int .i64 ((0 : Int)))))] []) (.ret, (St.of [(4, (.d (.bool true)))] [])))
 (some (.bool true)))
 (need (LoopOk (LB tab noSp lx L (n + (8 : Nat)) h180 c18l0) (St.of [(0, (.d (.sla false 1 es))), (1, (.d (.int .i64 id))), (5, (.d (.int .i64 ((0 : Int)))))] []) ((.ex 0), (St.of [] [])))
 (some (.bool false)))) from by kernel_rfl).trans (by first | rfl | (simp only [decide_true, decide_false, eq_self, and_true, true_and, and_self, cond_true, cond_false, Nat.le_refl, Int.le_refl, Option.getD_some, Option.getD_none, Int.toNat_natCast, List.take_length, List.drop_zero, Nat.zero_add, List.nil_append, List.all_nil, List.append_nil, Bool.true_and, Bool.and_true, rowsA_sla, rowsA_sl, rowsA_nil, minus_zero, nat_le_cast, nat_nonneg, Option.isSome_some, Option.isSome_none, Bool.false_eq_true, false_and, and_false, if_true, if_false, implies_true, Int.toNat_zero, Bool.not_false, Bool.not_true, bne_self_eq_false]; done) | (simp only [decide_true, decide_false, eq_self, and_true, true_and, and_self, cond_true, cond_false, Nat.le_refl, Int.le_refl, Option.getD_some, Option.getD_none, Int.toNat_natCast, List.take_length, List.drop_zero, Nat.zero_add, List.nil_append, List.all_nil, List.append_nil, Bool.true_and, Bool.and_true, rowsA_sla, rowsA_sl, rowsA_nil, minus_zero, nat_le_cast, nat_nonneg, Option.isSome_some, Option.isSome_none, Bool.false_eq_true, false_and, and_false, if_true, if_false, implies_true, Int.toNat_zero, Bool.not_false, Bool.not_true, bne_self_eq_false]; rfl))
theorem t16 (L n : Nat) (es es2 : List (List DV)) : FK tab noSp lx L (n+8) 16 [.sla false 1 es, .sla false 1 es2] =
   (bif (↑es.length : Int) != (↑es2.length : Int) then some (DV.bool false)
 else
 bif sameB es es2 then
 need
 (LoopOk (LB tab noSp lx L (n + (8 : Nat)) h160 c16l0)
 (St.of
 [(0, AV.d (DV.sla false 1 es)), (1, AV.d (DV.sla false 1 es2)), (5, AV.d (DV.int .i64 0))]
 [])
 (Ex.ex (0 : Nat), St.of [] []))
 (some (DV.bool true))
 else
 need
 (LoopOk (LB tab noSp lx L (n + (8 : Nat)) h160 c16l0)
 (St.of
 [(0, AV.d (DV.sla false 1 es)), (1, AV.d (DV.sla false 1 es2)), (5, AV.d (DV.int .i64 0))]
 [])
 (Ex.ret, St.of [(4, AV.d (DV.bool false))] []))
 (some (DV.bool false))) :=
  (show FK tab noSp lx L (n+8) 16 [.sla false 1 es, .sla false 1 es2] =
 (cond ((↑es.length : Int) != (↑es2.length : Int))
 (some (.bool false))
 (cond (sameB (rowsA (DV.sla false 1 es)) (rowsA (DV.sla false 1 es2)))
 (need (LoopOk (LB tab noSp lx L (n + (8 : Nat)) h160 c16l0) (St.of [(0, (.d (.sla false 1 es))), (1, (.d (.sla false 1 es2))), (5, (.d (.int .i64 ((0 : Int)))))] []) ((.ex 0), (St.of [] [])))
 (some (.bool true)))
 (need (LoopOk (LB tab noSp lx L (n + (8 : Nat)) h160 c16l0) (St.of [(0, (.d (.sla false 1 es))), (1, (.d (.sla false 1 es2))), (5, (.d (.int .i64 ((0 : Int)))))] []) (.ret, (St.of [(4, (.d (.bool false)))] [])))
 (some (.bool false))))) from by kernel_rfl).trans (by first | rfl | (simp only [decide_true, decide_false, eq_self, and_true, true_and, and_self, cond_true, cond_false, Nat.le_refl, Int.le_refl, Option.getD_some, Option.getD_none, Int.toNat_natCast, List.take_length, List.drop_zero, Nat.zero_add, List.nil_append, List.all_nil, List.append_nil, Bool.true_and, Bool.and_true, rowsA_sla, rowsA_sl, rowsA_nil, minus_zero, nat_le_cast, nat_nonneg, Option.isSome_some, Option.isSome_none, Bool.false_eq_true, false_and, and_false, if_true, if_false, implies_true, Int.toNat_zero, Bool.not_false, Bool.not_true, bne_self_eq_false]; done) | (simp only [decide_true, decide_false, eq_self, and_true, true_and, and_self, cond_true, cond_false, Nat.le_refl, Int.le_refl, Option.getD_some, Option.getD_none, Int.toNat_natCast, List.take_length, List.drop_zero, Nat.zero_add, List.nil_append, List.all_nil, List.append_nil, Bool.true_and, Bool.and_true, rowsA_sla, rowsA_sl, rowsA_nil, minus_zero, nat_le_cast, nat_nonneg, Option.isSome_some, Option.isSome_none, Bool.false_eq_true, false_and, and_false, if_true, if_false, implies_true, Int.toNat_zero, Bool.not_false, Bool.not_true, bne_self_eq_false]; rfl))
theorem t35 (L n : Nat) (es : List (List DV)) (id : Int) : FK tab noSp lx L (n+8) 35 [.sla false 1 es, .int .i64 id] =
   (need
 (LoopOk (LB tab noSp lx L (n + (8 : Nat)) h350 c35l0)
 (St.of
 [(0, AV.d (DV.sla false 1 es)), (1, AV.d (DV.int .i64 id)), (6, AV.d (DV.int .i64 (↑es.length : Int))),
 ((7 : Nat), AV.d (DV.int .i64 0)), (8, AV.d (DV.int .i64 (↑es.length : Int)))]
 [])
 (Ex.ex (0 : Nat),
 St.of
 [(0, AV.d (DV.sla false 1 es)), (1, AV.d (DV.int .i64 id)), (6, AV.d (DV.int .i64 (↑es.length : Int))),
 ((7 : Nat), AV.d (DV.int .i64 (↑(posB es id) : Int)))]
 []))
 (bif decide ((↑(posB es id) : Int) < (↑es.length : Int)) then
 lookK es[posB es id]? fun (e2 : List DV) =>
 bif okRow [DV.int .i64 0] e2 then
 bif (cellA e2 0).toI == id then some (DV.tuple [DV.int .i64 (↑(posB es id) : Int), DV.bool true])
 else
 lookK es[posB es id]? fun (e6 : List DV) =>
 bif okRow [DV.int .i64 0] e6 then some (DV.tuple [DV.int .i64 (↑(posB es id) : Int), DV.bool false]) else none
 else none
 else some (DV.tuple [DV.int .i64 (↑(posB es id) : Int), DV.bool false]))) :=
  (show FK tab noSp lx L (n+8) 35 [.sla false 1 es, .int .i64 id] =
 (need (LoopOk (LB tab noSp lx L (n + (8 : Nat)) h350 c35l0) (St.of [(0, (.d (.sla false 1 es))), (1, (.d (.int .i64 id))), (6, (.d (.int .i64 ((↑es.length : Int))))), (7, (.d (.int .i64 ((0 : Int))))), (8, (.d (.int .i64 ((↑es.length : Int)))))] []) ((.ex 0), (St.of [(0, (.d (.sla false 1 es))), (1, (.d (.int .i64 id))), (6, (.d (.int .i64 ((↑es.length : Int))))), (7, (.d (.int .i64 ((↑(posB (rowsA (DV.sla false 1 es)) id) : Int)))))] [])))
 (cond (decide ((↑(posB (rowsA (DV.sla false 1 es)) id) : Int) < (↑es.length : Int)))
 (lookK (es[(↑(posB (rowsA (DV.sla false 1 es)) id) : Int).toNat]?)
 fun e2 =>
 (cond (okRow [DV.int .i64 0] e2)
 (cond ((cellA e2 0).toI == id)
 (some (.tuple [(.int .i64 ((↑(posB (rowsA (DV.sla false 1 es)) id) : Int))), (.bool true)]))
 (lookK (es[(↑(posB (rowsA (DV.sla false 1 es)) id) : Int).toNat]?)
 fun e6 =>
 (cond (okRow [DV.int .i64 0] e6)
 (some (.tuple [(.int .i64 ((↑(posB (rowsA (DV.sla false 1 es)) id) : Int))), (.bool (bif (cellA e6 0).toI != (cellA e6 0).toI then id != id else false))]))
 none)))
 none))
 (some (.tuple [(.int .i64 ((↑(posB (rowsA (DV.sla false 1 es)) id) : Int))), (.bool false)])))) from by kernel_rfl).trans (by first | rfl | (simp only [decide_true, decide_false, eq_self, and_true, true_and, and_self, cond_true, cond_false, Nat.le_refl, Int.le_refl, Option.getD_some, Option.getD_none, Int.toNat_natCast, List.take_length, List.drop_zero, Nat.zero_add, List.nil_append, List.all_nil, List.append_nil, Bool.true_and, Bool.and_true, rowsA_sla, rowsA_sl, rowsA_nil, minus_zero, nat_le_cast, nat_nonneg, Option.isSome_some, Option.isSome_none, Bool.false_eq_true, false_and, and_false, if_true, if_false, implies_true, Int.toNat_zero, Bool.not_false, Bool.not_true, bne_self_eq_false]; done) | (simp only [decide_true, decide_false, eq_self, and_true, true_and, and_self, cond_true, cond_false, Nat.le_refl, Int.le_refl, Option.getD_some, Option.getD_none, Int.toNat_natCast, List.take_length, List.drop_zero, Nat.zero_add, List.nil_append, List.all_nil, List.append_nil, Bool.true_and, Bool.and_true, rowsA_sla, rowsA_sl, rowsA_nil, minus_zero, nat_le_cast, nat_nonneg, Option.isSome_some, Option.isSome_none, Bool.false_eq_true, false_and, and_false, if_true, if_false, implies_true, Int.toNat_zero, Bool.not_false, Bool.not_true, bne_self_eq_false]; rfl))
theorem t36 (L n : Nat) (es : List (List DV)) (i id : Int) : FK tab noSp lx L (n+8) 36 [.mv 2 1 es, .int .i64 i, .sla false 1 [[.int .i64 id]]] =
   (bif decide ((0 : Int) ≤ i) then
 bif decide (i ≤ (↑es.length : Int)) then
 bif i == (↑es.length : Int) then
 bif decide ((es ++ [[DV.int .i64 id]]).length * (8 : Nat) ≤ room ∧ (es ++ [[DV.int .i64 id]]).length ≤ room) then
 some (DV.sl (SK.own (2 : Nat)) (1 : Nat) (es ++ [[DV.int .i64 id]]))
 else none
 else none
 else none
 else none) :=
  (show FK tab noSp lx L (n+8) 36 [.mv 2 1 es, .int .i64 i, .sla false 1 [[.int .i64 id]]] =
 (cond (decide ((0 : Int) ≤ (some i).getD (0 : Int)))
 (cond (decide ((some i).getD (0 : Int) ≤ none.getD (↑es.length : Int)))
 (cond (decide (none.getD (↑es.length : Int) ≤ (↑es.length : Int)))
 (cond (i == (↑es.length : Int))
 (cond (decide ((2 : TypeId) = (2 : Nat) ∧ (1 : Nat) = (1 : Nat) ∧ (1 : Nat) = (1 : Nat) ∧ (0 : Nat) = (0 : Nat) ∧ es.length = es.length ∧ (es ++ [[DV.int .i64 id]]).length * (8 : Nat) ≤ room ∧ (es ++ [[DV.int .i64 id]]).length ≤ room))
 (cond (decide ((es ++ [[DV.int .i64 id]]).length = (es ++ [[DV.int .i64 id]]).length))
 (some (.sl (SK.own (2 : Nat)) 1 (es ++ [[DV.int .i64 id]])))
 (cond (decide ((0 : Nat) + (es ++ [[DV.int .i64 id]]).length ≤ (es ++ [[DV.int .i64 id]]).length))
 (some (.sl (SK.ro) 1 (List.take (es ++ [[DV.int .i64 id]]).length (es ++ [[DV.int .i64 id]]))))
 none))
 none)
 none)
 none)
 none)
 none) from by kernel_rfl).trans (by first | rfl | (simp only [decide_true, decide_false, eq_self, and_true, true_and, and_self, cond_true, cond_false, Nat.le_refl, Int.le_refl, Option.getD_some, Option.getD_none, Int.toNat_natCast, List.take_length, List.drop_zero, Nat.zero_add, List.nil_append, List.all_nil, List.append_nil, Bool.true_and, Bool.and_true, rowsA_sla, rowsA_sl, rowsA_nil, minus_zero, nat_le_cast, nat_nonneg, Option.isSome_some, Option.isSome_none, Bool.false_eq_true, false_and, and_false, if_true, if_false, implies_true, Int.toNat_zero, Bool.not_false, Bool.not_true, bne_self_eq_false]; done) | (simp only [decide_true, decide_false, eq_self, and_true, true_and, and_self, cond_true, cond_false, Nat.le_refl, Int.le_refl, Option.getD_some, Option.getD_none, Int.toNat_natCast, List.take_length, List.drop_zero, Nat.zero_add, List.nil_append, List.all_nil, List.append_nil, Bool.true_and, Bool.and_true, rowsA_sla, rowsA_sl, rowsA_nil, minus_zero, nat_le_cast, nat_nonneg, Option.isSome_some, Option.isSome_none, Bool.false_eq_true, false_and, and_false, if_true, if_false, implies_true, Int.toNat_zero, Bool.not_false, Bool.not_true, bne_self_eq_false]; rfl))
theorem t36n (L n : Nat) (id : Int) : FK tab noSp lx L (n+8) 36 [.nilsl, .int .i64 0, .sla false 1 [[.int .i64 id]]] =
   (some (DV.sl (SK.own (2 : Nat)) (1 : Nat) [[DV.int .i64 id]])) :=
  (show FK tab noSp lx L (n+8) 36 [.nilsl, .int .i64 0, .sla false 1 [[.int .i64 id]]] =
 (some (.sl (SK.own (2 : Nat)) 1 [[(.int .i64 id)]])) from by kernel_rfl).trans (by first | rfl | (simp only [decide_true, decide_false, eq_self, and_true, true_and, and_self, cond_true, cond_false, Nat.le_refl, Int.le_refl, Option.getD_some, Option.getD_none, Int.toNat_natCast, List.take_length, List.drop_zero, Nat.zero_add, List.nil_append, List.all_nil, List.append_nil, Bool.true_and, Bool.and_true, rowsA_sla, rowsA_sl, rowsA_nil, minus_zero, nat_le_cast, nat_nonneg, Option.isSome_some, Option.isSome_none, Bool.false_eq_true, false_and, and_false, if_true, if_false, implies_true, Int.toNat_zero, Bool.not_false, Bool.not_true, bne_self_eq_false]; done) | (simp only [decide_true, decide_false, eq_self, and_true, true_and, and_self, cond_true, cond_false, Nat.le_refl, Int.le_refl, Option.getD_some, Option.getD_none, Int.toNat_natCast, List.take_length, List.drop_zero, Nat.zero_add, List.nil_append, List.all_nil, List.append_nil, Bool.true_and, Bool.and_true, rowsA_sla, rowsA_sl, rowsA_nil, minus_zero, nat_le_cast, nat_nonneg, Option.isSome_some, Option.isSome_none, Bool.false_eq_true, false_and, and_false, if_true, if_false, implies_true, Int.toNat_zero, Bool.not_false, Bool.not_true, bne_self_eq_false]; rfl))

theorem okRow_one {e : List DV} (h : okRow z1 e = true) : ∃ n, e = [.int .i64 n] := by
  match e, h with
  | [], h => simp [okRow] at h
  | [.int .i64 n], _ => exact ⟨n, rfl⟩
  | [c], h =>
    cases c <;> simp_all [okRow, kindsOk, DV.isK]
  | _ :: _ :: _, h => simp [okRow] at h
theorem loop110 (L n : Nat) {es : List (List DV)} (hz : ∀ e ∈ es, okRow z1 e = true) (hl : es.length ≤ 1000) : ∀ r, (LR.br (ascB 0 es) (.one (.ex 0) (St.of [(0, .d (.sla false 1 es))] [])) (.one .ret (St.of [(2, .d (.bool false))] []))).val = some r →
    LoopOk (LB tab noSp lx L (n+4) h110 c11l0) (S110 (.sla false 1 es) 0) r := by
  intro r hr
  have key : ∀ (m i : Nat) (last : Int), es.length - i = m → i ≤ es.length → (i = 0 → last = 0) → (0 < i → ∀ h : i - 1 < es.length, last = cel es[i - 1] ∧ 0 < last) → ∀ r, (LR.br (ascB last (es.drop i)) (.one (.ex 0) (St.of [(0, .d (.sla false 1 es))] [])) (.one .ret (St.of [(2, .d (.bool false))] []))).val = some r →
      LoopOk (LB tab noSp lx L (n+4) h110 c11l0) (S110 (.sla false 1 es) (i : Nat)) r := by
    intro m
    induction m with
    | zero =>
      intro i last hm hi h0 h1 r hr
      have hi' : i = es.length := by omega
      subst hi'
      rw [List.drop_length] at hr
      cases (Option.some.inj hr)
      refine loop_one (by simp) fun k => ?_
      rw [s110, lt_dec_self]
      rfl
    | succ m ih =>
      intro i last hm hi h0 h1 r hr
      have hlt : i < es.length := by omega
      have hzi := hz es[i] (List.getElem_mem hlt)
      rw [List.drop_eq_getElem_cons hlt] at hr
      simp only [ascB] at hr
      have hstep : ∀ k, LB tab noSp lx L (n+4) h110 c11l0 (S110 (.sla false 1 es) (i : Nat)) k = cond (decide (cel es[i] ≤ last)) (k .ret (St.of [(2, .d (.bool false))] [])) (k .nrm (S110 (.sla false 1 es) ((i + 1 : Nat) : Int))) := by
        intro k
        rw [s110, lt_dec hlt, cond_true, look_nat hlt, hzi, cond_true]
        by_cases hi0 : i = 0
        · subst hi0
          have := h0 rfl
          subst this
          rw [decide_eq_false (show ¬ ((0 : Nat) : Int) > 0 by omega), cond_false, wrap_succ (by omega)]
          have e : (bif decide ((cellA es[0] 0).toI < 1) then true else false) = decide (cel es[0] ≤ 0) := by
            unfold cel
            by_cases hc : (cellA es[0] 0).toI < 1
            · rw [decide_eq_true hc, decide_eq_true (by omega)]; rfl
            · rw [decide_eq_false hc, decide_eq_false (by omega)]; rfl
          rw [e]
          rfl
        · have hp : i - 1 < es.length := by omega
          obtain ⟨hl1, hl2⟩ := h1 (by omega) hp
          rw [decide_eq_true (show ((i : Nat) : Int) > 0 by omega), cond_true, look_nat hlt, hzi, cond_true, wrap_pred (by omega) (by omega), decide_eq_true (show (0 : Int) ≤ ((i - 1 : Nat) : Int) by omega), cond_true, look_at hp, hz _ (List.getElem_mem hp), cond_true, wrap_succ (by omega)]
          unfold cel at hl1 ⊢
          by_cases hc : (cellA es[i] 0).toI < 1
          · rw [decide_eq_true hc, cond_true, decide_eq_true (by omega), cond_true]
          · rw [decide_eq_false hc, cond_false, ← hl1]
            rfl
      by_cases hc : cel es[i] ≤ last
      · rw [decide_eq_true hc] at hr
        cases (Option.some.inj hr)
        exact loop_one (by simp) fun k => by rw [hstep, decide_eq_true hc]; rfl
      · rw [decide_eq_false hc] at hr
        have hpos : 0 < cel es[i] := by
          by_cases hi0 : i = 0
          · have := h0 hi0
            omega
          · have := (h1 (by omega) (by omega)).2
            omega
        obtain ⟨q, hq⟩ := ih (i + 1) (cel es[i]) (by omega) (by omega) (by omega) (fun _ _ => ⟨rfl, hpos⟩) r hr
        exact ⟨q + 1, fun k => by
          rw [iterK_succ, hstep, decide_eq_false hc]
          exact hq k⟩
  exact key es.length 0 0 (by omega) (by omega) (fun _ => rfl) (fun h => absurd h (by omega)) r hr
theorem loop120 (L n : Nat) {es : List (List DV)} (hz : ∀ e ∈ es, okRow z1 e = true) (hl : es.length ≤ 1000) : ∀ r, (LR.br (ascB 0 es) (.one (.ex 0) (St.of [(0, .d (.sla false 1 es))] [])) (.one .ret (St.of [(2, .d (.bool false))] []))).val = some r →
    LoopOk (LB tab noSp lx L (n+4) h120 c12l0) (S120 (.sla false 1 es) (.sla false 1 es) 0 (es.length : Nat) 0) r := by
  intro r hr
  have key : ∀ (m i : Nat) (last : Int), es.length - i = m → i ≤ es.length → ∀ r, (LR.br (ascB last (es.drop i)) (.one (.ex 0) (St.of [(0, .d (.sla false 1 es))] [])) (.one .ret (St.of [(2, .d (.bool false))] []))).val = some r →
      LoopOk (LB tab noSp lx L (n+4) h120 c12l0) (S120 (.sla false 1 es) (.sla false 1 es) last (es.length : Nat) (i : Nat)) r := by
    intro m
    induction m with
    | zero =>
      intro i last hm hi r hr
      have hi' : i = es.length := by omega
      subst hi'
      rw [List.drop_length] at hr
      cases (Option.some.inj hr)
      refine loop_one (by simp) fun k => ?_
      rw [s120, lt_dec_self]
      rfl
    | succ m ih =>
      intro i last hm hi r hr
      have hlt : i < es.length := by omega
      have hzi := hz es[i] (List.getElem_mem hlt)
      rw [List.drop_eq_getElem_cons hlt] at hr
      simp only [ascB] at hr
      have hstep : ∀ k, LB tab noSp lx L (n+4) h120 c12l0 (S120 (.sla false 1 es) (.sla false 1 es) last (es.length : Nat) (i : Nat)) k = cond (decide (cel es[i] ≤ last)) (k .ret (St.of [(2, .d (.bool false))] [])) (k .nrm (S120 (.sla false 1 es) (.sla false 1 es) (cel es[i]) (es.length : Nat) ((i + 1 : Nat) : Int))) := by
        intro k
        rw [s120, lt_dec hlt, cond_true, look_nat hlt, hzi, cond_true, wrap_succ (by omega)]
        rfl
      by_cases hc : cel es[i] ≤ last
      · rw [decide_eq_true hc] at hr
        cases (Option.some.inj hr)
        exact loop_one (by simp) fun k => by rw [hstep, decide_eq_true hc]; rfl
      · rw [decide_eq_false hc] at hr
        obtain ⟨q, hq⟩ := ih (i + 1) (cel es[i]) (by omega) (by omega) r hr
        exact ⟨q + 1, fun k => by
          rw [iterK_succ, hstep, decide_eq_false hc]
          exact hq k⟩
  exact key es.length 0 0 (by omega) (by omega) r hr
def isS : FSpec where
  D ds := ∃ x, ds = [x] ∧ I1 1000 x
  val ds := match ds with | [x] => some (.bool (isB (rowsA x))) | _ => none
theorem le_dec {n m : Nat} : decide ((n : Int) ≤ (m : Int)) = decide (n ≤ m) := by
  by_cases h : n ≤ m
  · rw [decide_eq_true h, decide_eq_true (by omega)]
  · rw [decide_eq_false h, decide_eq_false (by omega)]
theorem is11 : isS.ok Try.prog 11 := fun ds r hD hv => by
  obtain ⟨x, rfl, hx, hz, hl⟩ := hD
  cases hv
  refine EntX.gen1 hx (spec_run (lsp := lx) tab_ok noSp_ok 20 (0 + 8) ((t11 20 0 (rowsA x)).trans ?_))
  have h := loop110 20 (0 + 4) hz hl
  generalize rowsA x = es at *
  simp only [rowsA_sla, isB]
  cases hb : ascB 0 es with
  | true =>
    rw [hb] at h
    exact (need_pos (h _ rfl)).trans (by rw [show (200 : Int) = ((200 : Nat) : Int) from rfl, le_dec]; rfl)
  | false =>
    rw [hb] at h
    exact (need_pos (h _ rfl)).trans rfl
theorem is12 : isS.ok Try.prog 12 := fun ds r hD hv => by
  obtain ⟨x, rfl, hx, hz, hl⟩ := hD
  cases hv
  refine EntX.gen1 hx (spec_run (lsp := lx) tab_ok noSp_ok 20 (0 + 8) ((t12 20 0 (rowsA x)).trans ?_))
  have h := loop120 20 (0 + 4) hz hl
  generalize rowsA x = es at *
  simp only [rowsA_sla, isB]
  cases hb : ascB 0 es with
  | true =>
    rw [hb] at h
    exact (need_pos (h _ rfl)).trans (by rw [show (200 : Int) = ((200 : Nat) : Int) from rfl, le_dec]; rfl)
  | false =>
    rw [hb] at h
    exact (need_pos (h _ rfl)).trans rfl
end Go.Proofs.Ytngghbloijkfoaa
