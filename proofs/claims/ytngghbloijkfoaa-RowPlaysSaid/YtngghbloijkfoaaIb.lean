/- What is known of the functions on rows of numbers, by their runs: is one there, where, one more. No condition. -/
import Derived.Test.YtngghbloijkfoaaIa
namespace Go.Proofs.Ytngghbloijkfoaa
open Go Go.Proofs Go.RowKit Vm
set_option linter.unusedVariables false
set_option linter.unusedSimpArgs false
def hasS : FSpec where
  D ds := ∃ x id, ds = [x, .int .i64 id] ∧ I1 1000 x
  val ds := match ds with | [x, .int _ id] => some (.bool (hasB (rowsA x) id)) | _ => none
def findS : FSpec where
  D ds := ∃ x id, ds = [x, .int .i64 id] ∧ I1 1000 x ∧ ascB 0 (rowsA x) = true
  val ds := match ds with | [x, .int _ id] => some (.tuple [.int .i64 (posB (rowsA x) id), .bool (hasB (rowsA x) id)]) | _ => none
def hasA : FSpec where
  D ds := ∃ x id, ds = [x, .int .i64 id] ∧ I1 1000 x ∧ ascB 0 (rowsA x) = true
  val ds := match ds with | [x, .int _ id] => some (.bool (hasB (rowsA x) id)) | _ => none
def samS : FSpec where
  D ds := ∃ x y, ds = [x, y] ∧ I1 1000 x ∧ I1 1000 y
  val ds := match ds with | [x, y] => some (.bool (sameB (rowsA x) (rowsA y))) | _ => none
/-- slices.Insert of one number -/
def insS : FSpec where
  D ds := ∃ es i y id, (ds = [.mv 2 1 es, .int .i64 ((i : Nat) : Int), y] ∧ i ≤ es.length ∨ ds = [.nilsl, .int .i64 ((i : Nat) : Int), y] ∧ i = 0 ∧ es = []) ∧ es.length ≤ 1000 ∧ Sl 1 y ∧ rowsA y = [[.int .i64 id]]
  val ds := match ds with
    | [.mv _ _ es, .int _ i, y] => some (.sl (.own 2) 1 (es.take i.toNat ++ (rowsA y ++ es.drop i.toNat)))
    | [_, _, y] => some (.sl (.own 2) 1 (rowsA y))
    | _ => none
def addE (es : List (List DV)) (id : Int) : Int := cond (hasB es id) 6 (cond (decide (200 ≤ es.length)) 3 0)
def addL (es : List (List DV)) (id : Int) : List (List DV) := cond (hasB es id) es (cond (decide (200 ≤ es.length)) es (insB es id))
def addS : FSpec where
  D ds := ∃ x id, ds = [x, .int .i64 id] ∧ I1 1000 x ∧ ascB 0 (rowsA x) = true
  val ds := match ds with | [x, .int _ id] => some (.tuple [.sla false 1 (addL (rowsA x) id), .int .i64 (addE (rowsA x) id)]) | _ => none
noncomputable def spF : FuncId → Option FSpec := spAdd 35 findS noSp
noncomputable def spA : FuncId → Option FSpec := spAdd 35 findS (spAdd 36 insS noSp)
noncomputable def spR : FuncId → Option FSpec := spAdd 18 hasS noSp
theorem t17 (L n : Nat) (es : List (List DV)) (id : Int) : FK tab spF lx L (n+8) 17 [.sla false 1 es, .int .i64 id] =
   (need (findS.D [DV.sla false 1 es, DV.int .i64 id]) (some (DV.bool (hasB es id)))) :=
  (show FK tab spF lx L (n+8) 17 [.sla false 1 es, .int .i64 id] =
 (need (FSpec.D (findS) [(.sla false 1 es), (.int .i64 id)])
 (some (.bool (hasB (rowsA (DV.sla false 1 es)) id)))) from by kernel_rfl).trans (by first | rfl | (simp only [decide_true, decide_false, eq_self, and_true, true_and, and_self, cond_true, cond_false, Nat.le_refl, Int.le_refl, Option.getD_some, Option.getD_none, Int.toNat_natCast, List.take_length, List.drop_zero, Nat.zero_add, List.nil_append, List.all_nil, List.append_nil, Bool.true_and, Bool.and_true, rowsA_sla, rowsA_sl, rowsA_nil, minus_zero, nat_le_cast, nat_nonneg, Option.isSome_some, Option.isSome_none, Bool.false_eq_true, false_and, and_false, if_true, if_false, implies_true, Int.toNat_zero, Bool.not_false, Bool.not_true, bne_self_eq_false]; done) | (simp only [decide_true, decide_false, eq_self, and_true, true_and, and_self, cond_true, cond_false, Nat.le_refl, Int.le_refl, Option.getD_some, Option.getD_none, Int.toNat_natCast, List.take_length, List.drop_zero, Nat.zero_add, List.nil_append, List.all_nil, List.append_nil, Bool.true_and, Bool.and_true, rowsA_sla, rowsA_sl, rowsA_nil, minus_zero, nat_le_cast, nat_nonneg, Option.isSome_some, Option.isSome_none, Bool.false_eq_true, false_and, and_false, if_true, if_false, implies_true, Int.toNat_zero, Bool.not_false, Bool.not_true, bne_self_eq_false]; rfl))
theorem t14 (L n : Nat) (es : List (List DV)) (id : Int) : FK tab spA lx L (n+8) 14 [.sl .ro 1 es, .int .i64 id] =
   (need (findS.D [DV.sl SK.ro 1 es, DV.int .i64 id])
 (bif hasB es id then some (DV.tuple [DV.sl SK.ro 1 es, DV.int .i64 6])
 else
 bif decide ((↑es.length : Int) ≥ (200 : Int)) then some (DV.tuple [DV.sl SK.ro 1 es, DV.int .i64 3])
 else
 bif decide (es.length = (0 : Nat)) then
 need (insS.D [DV.mv (2 : TypeId) (1 : Nat) [], DV.int .i64 (↑(posB es id) : Int), DV.sl SK.tight 1 [[DV.int .i64 id]]])
 (some
 (DV.tuple
 [DV.sl (SK.own (2 : TypeId)) (1 : Nat) (List.take (posB es id) [] ++ ([[DV.int .i64 id]] ++ List.drop (posB es id) [])), DV.int .i64 0]))
 else
 bif es.all fun (e : List DV) => e.length == (1 : Nat) && e.all DV.one then
 bif decide (es.length * (8 : Nat) ≤ room ∧ es.length ≤ room) then
 need (insS.D [DV.mv (2 : TypeId) (1 : Nat) es, DV.int .i64 (↑(posB es id) : Int), DV.sl SK.tight 1 [[DV.int .i64 id]]])
 (some
 (DV.tuple
 [DV.sl (SK.own (2 : TypeId)) (1 : Nat) (List.take (posB es id) es ++ ([[DV.int .i64 id]] ++ List.drop (posB es id) es)), DV.int .i64 0]))
 else none
 else none)) :=
  (show FK tab spA lx L (n+8) 14 [.sl .ro 1 es, .int .i64 id] =
 (need (FSpec.D (findS) [(.sl (SK.ro) 1 es), (.int .i64 id)])
 (cond (hasB (rowsA (DV.sl SK.ro 1 es)) id)
 (some (.tuple [(.sl (SK.ro) 1 es), (.int .i64 ((6 : Int)))]))
 (cond (decide ((↑es.length : Int) ≥ (200 : Int)))
 (some (.tuple [(.sl (SK.ro) 1 es), (.int .i64 ((3 : Int)))]))
 (cond (decide (es.length = (0 : Nat)))
 (need (FSpec.D (insS) [(.mv 2 1 []), (.int .i64 ((↑(posB (rowsA (DV.sl SK.ro 1 es)) id) : Int))), (.sl (SK.tight) 1 [[(.int .i64 id)]])])
 (cond (decide ((List.take (↑(posB (rowsA (DV.sl SK.ro 1 es)) id) : Int).toNat [] ++ (rowsA (DV.sl SK.tight 1 [[DV.int .i64 id]]) ++ List.drop (↑(posB (rowsA (DV.sl SK.ro 1 es)) id) : Int).toNat [])).length = (List.take (↑(posB (rowsA (DV.sl SK.ro 1 es)) id) : Int).toNat [] ++ (rowsA (DV.sl SK.tight 1 [[DV.int .i64 id]]) ++ List.drop (↑(posB (rowsA (DV.sl SK.ro 1 es)) id) : Int).toNat [])).length))
 (some (.tuple [(.sl (SK.own (2 : TypeId)) 1 (List.take (↑(posB (rowsA (DV.sl SK.ro 1 es)) id) : Int).toNat [] ++ (rowsA (DV.sl SK.tight 1 [[DV.int .i64 id]]) ++ List.drop (↑(posB (rowsA (DV.sl SK.ro 1 es)) id) : Int).toNat []))), (.int .i64 ((0 : Int)))]))
 (cond (decide ((0 : Nat) + (List.take (↑(posB (rowsA (DV.sl SK.ro 1 es)) id) : Int).toNat [] ++ (rowsA (DV.sl SK.tight 1 [[DV.int .i64 id]]) ++ List.drop (↑(posB (rowsA (DV.sl SK.ro 1 es)) id) : Int).toNat [])).length ≤ (List.take (↑(posB (rowsA (DV.sl SK.ro 1 es)) id) : Int).toNat [] ++ (rowsA (DV.sl SK.tight 1 [[DV.int .i64 id]]) ++ List.drop (↑(posB (rowsA (DV.sl SK.ro 1 es)) id) : Int).toNat [])).length))
 (some (.tuple [(.sl (SK.ro) 1 (List.take (List.take (↑(posB (rowsA (DV.sl SK.ro 1 es)) id) : Int).toNat [] ++ (rowsA (DV.sl SK.tight 1 [[DV.int .i64 id]]) ++ List.drop (↑(posB (rowsA (DV.sl SK.ro 1 es)) id) : Int).toNat [])).length (List.take (↑(posB (rowsA (DV.sl SK.ro 1 es)) id) : Int).toNat [] ++ (rowsA (DV.sl SK.tight 1 [[DV.int .i64 id]]) ++ List.drop (↑(posB (rowsA (DV.sl SK.ro 1 es)) id) : Int).toNat [])))), (.int .i64 ((0 : Int)))]))
 none)))
 (cond (es.all fun (e : List DV) => e.length == (1 : Nat) && e.all DV.one)
 (cond (decide ((2 : Nat) = (2 : Nat) ∧ (1 : Nat) = (1 : Nat) ∧ (1 : Nat) = (1 : Nat) ∧ (0 : Nat) = (0 : Nat) ∧ (0 : Nat) = (0 : Nat) ∧ es.length * (8 : Nat) ≤ room ∧ es.length ≤ room))
 (cond (decide (es.length = es.length))
 (cond (decide ((1 : Nat) = (1 : Nat) ∧ (0 : Nat) = (0 : Nat) ∧ es.length = es.length))
 (need (FSpec.D (insS) [(.mv 2 1 es), (.int .i64 ((↑(posB (rowsA (DV.sl SK.ro 1 es)) id) : Int))), (.sl (SK.tight) 1 [[(.int .i64 id)]])])
 (cond (decide ((List.take (↑(posB (rowsA (DV.sl SK.ro 1 es)) id) : Int).toNat es ++ (rowsA (DV.sl SK.tight 1 [[DV.int .i64 id]]) ++ List.drop (↑(posB (rowsA (DV.sl SK.ro 1 es)) id) : Int).toNat es)).length = (List.take (↑(posB (rowsA (DV.sl SK.ro 1 es)) id) : Int).toNat es ++ (rowsA (DV.sl SK.tight 1 [[DV.int .i64 id]]) ++ List.drop (↑(posB (rowsA (DV.sl SK.ro 1 es)) id) : Int).toNat es)).length))
 (some (.tuple [(.sl (SK.own (2 : TypeId)) 1 (List.take (↑(posB (rowsA (DV.sl SK.ro 1 es)) id) : Int).toNat es ++ (rowsA (DV.sl SK.tight 1 [[DV.int .i64 id]]) ++ List.drop (↑(posB (rowsA (DV.sl SK.ro 1 es)) id) : Int).toNat es))), (.int .i64 ((0 : Int)))]))
 (cond (decide ((0 : Nat) + (List.take (↑(posB (rowsA (DV.sl SK.ro 1 es)) id) : Int).toNat es ++ (rowsA (DV.sl SK.tight 1 [[DV.int .i64 id]]) ++ List.drop (↑(posB (rowsA (DV.sl SK.ro 1 es)) id) : Int).toNat es)).length ≤ (List.take (↑(posB (rowsA (DV.sl SK.ro 1 es)) id) : Int).toNat es ++ (rowsA (DV.sl SK.tight 1 [[DV.int .i64 id]]) ++ List.drop (↑(posB (rowsA (DV.sl SK.ro 1 es)) id) : Int).toNat es)).length))
 (some (.tuple [(.sl (SK.ro) 1 (List.take (List.take (↑(posB (rowsA (DV.sl SK.ro 1 es)) id) : Int).toNat es ++ (rowsA (DV.sl SK.tight 1 [[DV.int .i64 id]]) ++ List.drop (↑(posB (rowsA (DV.sl SK.ro 1 es)) id) : Int).toNat es)).length (List.take (↑(posB (rowsA (DV.sl SK.ro 1 es)) id) : Int).toNat es ++ (rowsA (DV.sl SK.tight 1 [[DV.int .i64 id]]) ++ List.drop (↑(posB (rowsA (DV.sl SK.ro 1 es)) id) : Int).toNat es)))), (.int .i64 ((0 : Int)))]))
 none)))
 none)
 (cond (decide ((0 : Nat) + es.length ≤ es.length))
 (need (FSpec.D (insS) [(.sl (SK.ro) 1 (List.take es.length es)), (.int .i64 ((↑(posB (rowsA (DV.sl SK.ro 1 es)) id) : Int))), (.sl (SK.tight) 1 [[(.int .i64 id)]])])
 (some (.tuple [(.sl (SK.own (2 : TypeId)) 1 [[(.int .i64 id)]]), (.int .i64 ((0 : Int)))])))
 none))
 none)
 none))))) from by kernel_rfl).trans (by first | rfl | (simp only [decide_true, decide_false, eq_self, and_true, true_and, and_self, cond_true, cond_false, Nat.le_refl, Int.le_refl, Option.getD_some, Option.getD_none, Int.toNat_natCast, List.take_length, List.drop_zero, Nat.zero_add, List.nil_append, List.all_nil, List.append_nil, Bool.true_and, Bool.and_true, rowsA_sla, rowsA_sl, rowsA_nil, minus_zero, nat_le_cast, nat_nonneg, Option.isSome_some, Option.isSome_none, Bool.false_eq_true, false_and, and_false, if_true, if_false, implies_true, Int.toNat_zero, Bool.not_false, Bool.not_true, bne_self_eq_false]; done) | (simp only [decide_true, decide_false, eq_self, and_true, true_and, and_self, cond_true, cond_false, Nat.le_refl, Int.le_refl, Option.getD_some, Option.getD_none, Int.toNat_natCast, List.take_length, List.drop_zero, Nat.zero_add, List.nil_append, List.all_nil, List.append_nil, Bool.true_and, Bool.and_true, rowsA_sla, rowsA_sl, rowsA_nil, minus_zero, nat_le_cast, nat_nonneg, Option.isSome_some, Option.isSome_none, Bool.false_eq_true, false_and, and_false, if_true, if_false, implies_true, Int.toNat_zero, Bool.not_false, Bool.not_true, bne_self_eq_false]; rfl))
theorem t14n (L n : Nat) (id : Int) : FK tab spA lx L (n+8) 14 [.nilsl, .int .i64 id] =
   (need (findS.D [DV.nilsl, DV.int .i64 id])
 (need (insS.D [DV.nilsl, DV.int .i64 (↑(posB [] id) : Int), DV.sl SK.tight 1 [[DV.int .i64 id]]])
 (some (DV.tuple [DV.sl (SK.own (2 : TypeId)) (1 : Nat) [[DV.int .i64 id]], DV.int .i64 0])))) :=
  (show FK tab spA lx L (n+8) 14 [.nilsl, .int .i64 id] =
 (need (FSpec.D (findS) [.nilsl, (.int .i64 id)])
 (need (FSpec.D (insS) [.nilsl, (.int .i64 ((↑(posB (rowsA DV.nilsl) id) : Int))), (.sl (SK.tight) 1 [[(.int .i64 id)]])])
 (some (.tuple [(.sl (SK.own (2 : TypeId)) 1 [[(.int .i64 id)]]), (.int .i64 ((0 : Int)))])))) from by kernel_rfl).trans (by first | rfl | (simp only [decide_true, decide_false, eq_self, and_true, true_and, and_self, cond_true, cond_false, Nat.le_refl, Int.le_refl, Option.getD_some, Option.getD_none, Int.toNat_natCast, List.take_length, List.drop_zero, Nat.zero_add, List.nil_append, List.all_nil, List.append_nil, Bool.true_and, Bool.and_true, rowsA_sla, rowsA_sl, rowsA_nil, minus_zero, nat_le_cast, nat_nonneg, Option.isSome_some, Option.isSome_none, Bool.false_eq_true, false_and, and_false, if_true, if_false, implies_true, Int.toNat_zero, Bool.not_false, Bool.not_true, bne_self_eq_false]; done) | (simp only [decide_true, decide_false, eq_self, and_true, true_and, and_self, cond_true, cond_false, Nat.le_refl, Int.le_refl, Option.getD_some, Option.getD_none, Int.toNat_natCast, List.take_length, List.drop_zero, Nat.zero_add, List.nil_append, List.all_nil, List.append_nil, Bool.true_and, Bool.and_true, rowsA_sla, rowsA_sl, rowsA_nil, minus_zero, nat_le_cast, nat_nonneg, Option.isSome_some, Option.isSome_none, Bool.false_eq_true, false_and, and_false, if_true, if_false, implies_true, Int.toNat_zero, Bool.not_false, Bool.not_true, bne_self_eq_false]; rfl))
theorem s150r (L n : Nat) (es : List (List DV)) (id : Int) (i : Nat) (k : Kont) : LB tab spR lx L (n+4) h150 c15l0 (S150 (.sla false 1 es) id i) k =
   (bif decide ((↑i : Int) < (↑es.length : Int)) then
 lookK es[i]? fun (e1 : List DV) =>
 bif okRow [DV.int .i64 0] e1 then
 bif decide ((cellA e1 0).toI < id) then
 k Ex.nrm
 (St.of
 [(0, AV.d (DV.sla false 1 es)), (1, AV.d (DV.int .i64 id)),
 ((6 : Nat), AV.d (DV.int .i64 (IntKind.i64.wrap ((↑i : Int) + (1 : Int)))))]
 [])
 else
 k (Ex.ex (0 : Nat))
 (St.of
 [(0, AV.d (DV.sla false 1 es)), (1, AV.d (DV.int .i64 id)), (6, AV.d (DV.int .i64 (↑i : Int)))] [])
 else none
 else
 k (Ex.ex (0 : Nat))
 (St.of [(0, AV.d (DV.sla false 1 es)), (1, AV.d (DV.int .i64 id)), (6, AV.d (DV.int .i64 (↑i : Int)))] [])) :=
  (show LB tab spR lx L (n+4) h150 c15l0 (S150 (.sla false 1 es) id i) k =
 (cond (decide ((↑i : Int) < (↑es.length : Int)))
 (lookK (es[(↑i : Int).toNat]?)
 fun e1 =>
 (cond (okRow [DV.int .i64 0] e1)
 (cond (decide ((cellA e1 0).toI < id))
 (k .nrm (St.of [(0, (.d (.sla false 1 es))), (1, (.d (.int .i64 id))), (6, (.d (.int .i64 (IntKind.i64.wrap ((↑i : Int) + (1 : Int))))))] []))
 (k (.ex 0) (St.of [(0, (.d (.sla false 1 es))), (1, (.d (.int .i64 id))), (6, (.d (.int .i64 ((↑i : Int)))))] [])))
 none))
 (k (.ex 0) (St.of [(0, (.d (.sla false 1 es))), (1, (.d (.int .i64 id))), (6, (.d (.int .i64 ((↑i : Int)))))] []))) from by kernel_rfl).trans (by first | rfl | (simp only [decide_true, decide_false, eq_self, and_true, true_and, and_self, cond_true, cond_false, Nat.le_refl, Int.le_refl, Option.getD_some, Option.getD_none, Int.toNat_natCast, List.take_length, List.drop_zero, Nat.zero_add, List.nil_append, List.all_nil, List.append_nil, Bool.true_and, Bool.and_true, rowsA_sla, rowsA_sl, rowsA_nil, minus_zero, nat_le_cast, nat_nonneg, Option.isSome_some, Option.isSome_none, Bool.false_eq_true, false_and, and_false, if_true, if_false, implies_true, Int.toNat_zero, Bool.not_false, Bool.not_true, bne_self_eq_false]; done) | (simp only [decide_true, decide_false, eq_self, and_true, true_and, and_self, cond_true, cond_false, Nat.le_refl, Int.le_refl, Option.getD_some, Option.getD_none, Int.toNat_natCast, List.take_length, List.drop_zero, Nat.zero_add, List.nil_append, List.all_nil, List.append_nil, Bool.true_and, Bool.and_true, rowsA_sla, rowsA_sl, rowsA_nil, minus_zero, nat_le_cast, nat_nonneg, Option.isSome_some, Option.isSome_none, Bool.false_eq_true, false_and, and_false, if_true, if_false, implies_true, Int.toNat_zero, Bool.not_false, Bool.not_true, bne_self_eq_false]; rfl))
theorem t15 (L n : Nat) (es : List (List DV)) (id : Int) : FK tab spR lx L (n+8) 15 [.sla false 1 es, .int .i64 id] =
   (need (hasS.D [DV.sla false 1 es, DV.int .i64 id])
 (bif hasB es id then some (DV.tuple [DV.sla false 1 es, DV.int .i64 6])
 else
 bif decide ((↑es.length : Int) ≥ (200 : Int)) then some (DV.tuple [DV.sla false 1 es, DV.int .i64 3])
 else
 need
 (LoopOk (LB tab spR lx L (n + (8 : Nat)) h150 c15l0)
 (St.of [(0, AV.d (DV.sla false 1 es)), (1, AV.d (DV.int .i64 id)), (6, AV.d (DV.int .i64 0))]
 [])
 (Ex.ex (0 : Nat),
 St.of
 [(0, AV.d (DV.sla false 1 es)), (1, AV.d (DV.int .i64 id)),
 ((6 : Nat), AV.d (DV.int .i64 (↑(posB es id) : Int)))]
 []))
 (bif decide (posB es id ≤ es.length) then
 bif decide ((List.take (posB es id) es).length = (0 : Nat)) then
 bif decide (posB es id ≤ es.length) then
 bif decide ((List.drop (posB es id) es).length = (0 : Nat)) then
 some (DV.tuple [DV.sl (SK.own (2 : Nat)) (1 : Nat) [[DV.int .i64 id]], DV.int .i64 0])
 else
 bif (List.drop (posB es id) es).all fun (e : List DV) => e.length == (1 : Nat) && e.all DV.one then
 bif
 decide
 (((List.drop (posB es id) es).length + (1 : Nat)) * (8 : Nat) ≤ room ∧ (List.drop (posB es id) es).length + (1 : Nat) ≤ room) then
 some
 (DV.tuple [DV.sl (SK.own (2 : Nat)) (1 : Nat) ([DV.int .i64 id] :: List.drop (posB es id) es), DV.int .i64 0])
 else none
 else none
 else none
 else
 bif (List.take (posB es id) es).all fun (e : List DV) => e.length == (1 : Nat) && e.all DV.one then
 bif decide ((List.take (posB es id) es).length * (8 : Nat) ≤ room ∧ (List.take (posB es id) es).length ≤ room) then
 bif
 decide
 ((List.take (posB es id) es ++ [[DV.int .i64 id]]).length * (8 : Nat) ≤ room ∧
 (List.take (posB es id) es ++ [[DV.int .i64 id]]).length ≤ room) then
 bif decide (posB es id ≤ es.length) then
 bif decide ((List.drop (posB es id) es).length = (0 : Nat)) then
 some
 (DV.tuple
 [DV.sl (SK.own (2 : Nat)) (1 : Nat) (List.take (posB es id) es ++ [[DV.int .i64 id]]), DV.int .i64 0])
 else
 bif (List.drop (posB es id) es).all fun (e : List DV) => e.length == (1 : Nat) && e.all DV.one then
 bif
 decide
 ((List.take (posB es id) es ++ [[DV.int .i64 id]] ++ List.drop (posB es id) es).length * (8 : Nat) ≤ room ∧
 (List.take (posB es id) es ++ [[DV.int .i64 id]] ++ List.drop (posB es id) es).length ≤ room) then
 some
 (DV.tuple
 [DV.sl (SK.own (2 : Nat)) (1 : Nat) (List.take (posB es id) es ++ [[DV.int .i64 id]] ++ List.drop (posB es id) es), DV.int .i64 0])
 else none
 else none
 else none
 else none
 else none
 else none
 else none))) :=
  (show FK tab spR lx L (n+8) 15 [.sla false 1 es, .int .i64 id] =
 (need (FSpec.D (hasS) [(.sla false 1 es), (.int .i64 id)])
 (cond (hasB (rowsA (DV.sla false 1 es)) id)
 (some (.tuple [(.sla false 1 es), (.int .i64 ((6 : Int)))]))
 (cond (decide ((↑es.length : Int) ≥ (200 : Int)))
 (some (.tuple [(.sla false 1 es), (.int .i64 ((3 : Int)))]))
 (need (LoopOk (LB tab spR lx L (n + (8 : Nat)) h150 c15l0) (St.of [(0, (.d (.sla false 1 es))), (1, (.d (.int .i64 id))), (6, (.d (.int .i64 ((0 : Int)))))] []) ((.ex 0), (St.of [(0, (.d (.sla false 1 es))), (1, (.d (.int .i64 id))), (6, (.d (.int .i64 ((↑(posB (rowsA (DV.sla false 1 es)) id) : Int)))))] [])))
 (cond (decide ((some (↑(posB (rowsA (DV.sla false 1 es)) id) : Int)).getD (↑es.length : Int) ≤ (↑es.length : Int)))
 (cond (decide ((List.drop (none.getD (0 : Int)).toNat (List.take ((some (↑(posB (rowsA (DV.sla false 1 es)) id) : Int)).getD (↑es.length : Int)).toNat es)).length = (0 : Nat)))
 (cond (decide ((some (↑(posB (rowsA (DV.sla false 1 es)) id) : Int)).getD (0 : Int) ≤ none.getD (↑es.length : Int)))
 (cond (decide (none.getD (↑es.length : Int) ≤ (↑es.length : Int)))
 (cond (decide ((List.drop ((some (↑(posB (rowsA (DV.sla false 1 es)) id) : Int)).getD (0 : Int)).toNat (List.take (none.getD (↑es.length : Int)).toNat es)).length = (0 : Nat)))
 (some (.tuple [(.sl (SK.own (2 : Nat)) 1 [[(.int .i64 id)]]), (.int .i64 ((0 : Int)))]))
 (cond ((List.drop ((some (↑(posB (rowsA (DV.sla false 1 es)) id) : Int)).getD (0 : Int)).toNat (List.take (none.getD (↑es.length : Int)).toNat es)).all fun (e : List DV) => e.length == (1 : Nat) && e.all DV.one)
 (cond (decide ((2 : Nat) = (2 : Nat) ∧ (1 : Nat) = (1 : Nat) ∧ (1 : Nat) = (1 : Nat) ∧ (0 : Nat) = (0 : Nat) ∧ (1 : Nat) = (1 : Nat) ∧ ((List.drop ((some (↑(posB (rowsA (DV.sla false 1 es)) id) : Int)).getD (0 : Int)).toNat (List.take (none.getD (↑es.length : Int)).toNat es)).length + (1 : Nat)) * (8 : Nat) ≤ room ∧ (List.drop ((some (↑(posB (rowsA (DV.sla false 1 es)) id) : Int)).getD (0 : Int)).toNat (List.take (none.getD (↑es.length : Int)).toNat es)).length + (1 : Nat) ≤ room))
 (cond (decide ((List.drop ((some (↑(posB (rowsA (DV.sla false 1 es)) id) : Int)).getD (0 : Int)).toNat (List.take (none.getD (↑es.length : Int)).toNat es)).length + (1 : Nat) = (List.drop ((some (↑(posB (rowsA (DV.sla false 1 es)) id) : Int)).getD (0 : Int)).toNat (List.take (none.getD (↑es.length : Int)).toNat es)).length + (1 : Nat)))
 (some (.tuple [(.sl (SK.own (2 : Nat)) 1 ([DV.int .i64 id] :: List.drop ((some (↑(posB (rowsA (DV.sla false 1 es)) id) : Int)).getD (0 : Int)).toNat (List.take (none.getD (↑es.length : Int)).toNat es))), (.int .i64 ((0 : Int)))]))
 (cond (decide ((0 : Nat) + ((List.drop ((some (↑(posB (rowsA (DV.sla false 1 es)) id) : Int)).getD (0 : Int)).toNat (List.take (none.getD (↑es.length : Int)).toNat es)).length + (1 : Nat)) ≤ (List.drop ((some (↑(posB (rowsA (DV.sla false 1 es)) id) : Int)).getD (0 : Int)).toNat (List.take (none.getD (↑es.length : Int)).toNat es)).length + (1 : Nat)))
 (some (.tuple [(.sl (SK.ro) 1 ([DV.int .i64 id] :: List.take (List.drop ((some (↑(posB (rowsA (DV.sla false 1 es)) id) : Int)).getD (0 : Int)).toNat (List.take (none.getD (↑es.length : Int)).toNat es)).length (List.drop ((some (↑(posB (rowsA (DV.sla false 1 es)) id) : Int)).getD (0 : Int)).toNat (List.take (none.getD (↑es.length : Int)).toNat es)))), (.int .i64 ((0 : Int)))]))
 none))
 none)
 none))
 none)
 none)
 (cond ((List.drop (none.getD (0 : Int)).toNat (List.take ((some (↑(posB (rowsA (DV.sla false 1 es)) id) : Int)).getD (↑es.length : Int)).toNat es)).all fun (e : List DV) => e.length == (1 : Nat) && e.all DV.one)
 (cond (decide ((1 : Nat) = (1 : Nat) ∧ (List.drop (none.getD (0 : Int)).toNat (List.take ((some (↑(posB (rowsA (DV.sla false 1 es)) id) : Int)).getD (↑es.length : Int)).toNat es)).length * (8 : Nat) ≤ room ∧ (List.drop (none.getD (0 : Int)).toNat (List.take ((some (↑(posB (rowsA (DV.sla false 1 es)) id) : Int)).getD (↑es.length : Int)).toNat es)).length ≤ room ∧ ([].all fun (e : List DV) => e.length == (1 : Nat) && e.all DV.one) = true))
 (cond (decide ((2 : Nat) = (2 : Nat) ∧ (1 : Nat) = (1 : Nat) ∧ (1 : Nat) = (1 : Nat) ∧ (0 : Nat) = (0 : Nat) ∧ (List.drop (none.getD (0 : Int)).toNat (List.take ((some (↑(posB (rowsA (DV.sla false 1 es)) id) : Int)).getD (↑es.length : Int)).toNat es)).length = (List.drop (none.getD (0 : Int)).toNat (List.take ((some (↑(posB (rowsA (DV.sla false 1 es)) id) : Int)).getD (↑es.length : Int)).toNat es)).length ∧ (List.drop (none.getD (0 : Int)).toNat (List.take ((some (↑(posB (rowsA (DV.sla false 1 es)) id) : Int)).getD (↑es.length : Int)).toNat es) ++ [[DV.int .i64 id]]).length * (8 : Nat) ≤ room ∧ (List.drop (none.getD (0 : Int)).toNat (List.take ((some (↑(posB (rowsA (DV.sla false 1 es)) id) : Int)).getD (↑es.length : Int)).toNat es) ++ [[DV.int .i64 id]]).length ≤ room))
 (cond (decide ((some (↑(posB (rowsA (DV.sla false 1 es)) id) : Int)).getD (0 : Int) ≤ none.getD (↑es.length : Int)))
 (cond (decide (none.getD (↑es.length : Int) ≤ (↑es.length : Int)))
 (cond (decide ((List.drop ((some (↑(posB (rowsA (DV.sla false 1 es)) id) : Int)).getD (0 : Int)).toNat (List.take (none.getD (↑es.length : Int)).toNat es)).length = (0 : Nat)))
 (cond (decide ((List.drop (none.getD (0 : Int)).toNat (List.take ((some (↑(posB (rowsA (DV.sla false 1 es)) id) : Int)).getD (↑es.length : Int)).toNat es) ++ [[DV.int .i64 id]]).length = (List.drop (none.getD (0 : Int)).toNat (List.take ((some (↑(posB (rowsA (DV.sla false 1 es)) id) : Int)).getD (↑es.length : Int)).toNat es) ++ [[DV.int .i64 id]]).length))
 (some (.tuple [(.sl (SK.own (2 : Nat)) 1 (List.drop (none.getD (0 : Int)).toNat (List.take ((some (↑(posB (rowsA (DV.sla false 1 es)) id) : Int)).getD (↑es.length : Int)).toNat es) ++ [[DV.int .i64 id]])), (.int .i64 ((0 : Int)))]))
 (cond (decide ((0 : Nat) + (List.drop (none.getD (0 : Int)).toNat (List.take ((some (↑(posB (rowsA (DV.sla false 1 es)) id) : Int)).getD (↑es.length : Int)).toNat es) ++ [[DV.int .i64 id]]).length ≤ (List.drop (none.getD (0 : Int)).toNat (List.take ((some (↑(posB (rowsA (DV.sla false 1 es)) id) : Int)).getD (↑es.length : Int)).toNat es) ++ [[DV.int .i64 id]]).length))
 (some (.tuple [(.sl (SK.ro) 1 (List.take (List.drop (none.getD (0 : Int)).toNat (List.take ((some (↑(posB (rowsA (DV.sla false 1 es)) id) : Int)).getD (↑es.length : Int)).toNat es) ++ [[DV.int .i64 id]]).length (List.drop (none.getD (0 : Int)).toNat (List.take ((some (↑(posB (rowsA (DV.sla false 1 es)) id) : Int)).getD (↑es.length : Int)).toNat es) ++ [[DV.int .i64 id]]))), (.int .i64 ((0 : Int)))]))
 none))
 (cond ((List.drop ((some (↑(posB (rowsA (DV.sla false 1 es)) id) : Int)).getD (0 : Int)).toNat (List.take (none.getD (↑es.length : Int)).toNat es)).all fun (e : List DV) => e.length == (1 : Nat) && e.all DV.one)
 (cond (decide ((2 : Nat) = (2 : Nat) ∧ (1 : Nat) = (1 : Nat) ∧ (1 : Nat) = (1 : Nat) ∧ (0 : Nat) = (0 : Nat) ∧ (List.drop (none.getD (0 : Int)).toNat (List.take ((some (↑(posB (rowsA (DV.sla false 1 es)) id) : Int)).getD (↑es.length : Int)).toNat es) ++ [[DV.int .i64 id]]).length = (List.drop (none.getD (0 : Int)).toNat (List.take ((some (↑(posB (rowsA (DV.sla false 1 es)) id) : Int)).getD (↑es.length : Int)).toNat es) ++ [[DV.int .i64 id]]).length ∧ (List.drop (none.getD (0 : Int)).toNat (List.take ((some (↑(posB (rowsA (DV.sla false 1 es)) id) : Int)).getD (↑es.length : Int)).toNat es) ++ [[DV.int .i64 id]] ++ List.drop ((some (↑(posB (rowsA (DV.sla false 1 es)) id) : Int)).getD (0 : Int)).toNat (List.take (none.getD (↑es.length : Int)).toNat es)).length * (8 : Nat) ≤ room ∧ (List.drop (none.getD (0 : Int)).toNat (List.take ((some (↑(posB (rowsA (DV.sla false 1 es)) id) : Int)).getD (↑es.length : Int)).toNat es) ++ [[DV.int .i64 id]] ++ List.drop ((some (↑(posB (rowsA (DV.sla false 1 es)) id) : Int)).getD (0 : Int)).toNat (List.take (none.getD (↑es.length : Int)).toNat es)).length ≤ room))
 (cond (decide ((List.drop (none.getD (0 : Int)).toNat (List.take ((some (↑(posB (rowsA (DV.sla false 1 es)) id) : Int)).getD (↑es.length : Int)).toNat es) ++ [[DV.int .i64 id]] ++ List.drop ((some (↑(posB (rowsA (DV.sla false 1 es)) id) : Int)).getD (0 : Int)).toNat (List.take (none.getD (↑es.length : Int)).toNat es)).length = (List.drop (none.getD (0 : Int)).toNat (List.take ((some (↑(posB (rowsA (DV.sla false 1 es)) id) : Int)).getD (↑es.length : Int)).toNat es) ++ [[DV.int .i64 id]] ++ List.drop ((some (↑(posB (rowsA (DV.sla false 1 es)) id) : Int)).getD (0 : Int)).toNat (List.take (none.getD (↑es.length : Int)).toNat es)).length))
 (some (.tuple [(.sl (SK.own (2 : Nat)) 1 (List.drop (none.getD (0 : Int)).toNat (List.take ((some (↑(posB (rowsA (DV.sla false 1 es)) id) : Int)).getD (↑es.length : Int)).toNat es) ++ [[DV.int .i64 id]] ++ List.drop ((some (↑(posB (rowsA (DV.sla false 1 es)) id) : Int)).getD (0 : Int)).toNat (List.take (none.getD (↑es.length : Int)).toNat es))), (.int .i64 ((0 : Int)))]))
 (cond (decide ((0 : Nat) + (List.drop (none.getD (0 : Int)).toNat (List.take ((some (↑(posB (rowsA (DV.sla false 1 es)) id) : Int)).getD (↑es.length : Int)).toNat es) ++ [[DV.int .i64 id]] ++ List.drop ((some (↑(posB (rowsA (DV.sla false 1 es)) id) : Int)).getD (0 : Int)).toNat (List.take (none.getD (↑es.length : Int)).toNat es)).length ≤ (List.drop (none.getD (0 : Int)).toNat (List.take ((some (↑(posB (rowsA (DV.sla false 1 es)) id) : Int)).getD (↑es.length : Int)).toNat es) ++ [[DV.int .i64 id]] ++ List.drop ((some (↑(posB (rowsA (DV.sla false 1 es)) id) : Int)).getD (0 : Int)).toNat (List.take (none.getD (↑es.length : Int)).toNat es)).length))
 (some (.tuple [(.sl (SK.ro) 1 (List.take (List.drop (none.getD (0 : Int)).toNat (List.take ((some (↑(posB (rowsA (DV.sla false 1 es)) id) : Int)).getD (↑es.length : Int)).toNat es) ++ [[DV.int .i64 id]] ++ List.drop ((some (↑(posB (rowsA (DV.sla false 1 es)) id) : Int)).getD (0 : Int)).toNat (List.take (none.getD (↑es.length : Int)).toNat es)).length (List.drop (none.getD (0 : Int)).toNat (List.take ((some (↑(posB (rowsA (DV.sla false 1 es)) id) : Int)).getD (↑es.length : Int)).toNat es) ++ [[DV.int .i64 id]] ++ List.drop ((some (↑(posB (rowsA (DV.sla false 1 es)) id) : Int)).getD (0 : Int)).toNat (List.take (none.getD (↑es.length : Int)).toNat es)))), (.int .i64 ((0 : Int)))]))
 none))
 none)
 none))
 none)
 none)
 none)
 none)
 none))
 none))))) from by kernel_rfl).trans (by first | rfl | (simp only [decide_true, decide_false, eq_self, and_true, true_and, and_self, cond_true, cond_false, Nat.le_refl, Int.le_refl, Option.getD_some, Option.getD_none, Int.toNat_natCast, List.take_length, List.drop_zero, Nat.zero_add, List.nil_append, List.all_nil, List.append_nil, Bool.true_and, Bool.and_true, rowsA_sla, rowsA_sl, rowsA_nil, minus_zero, nat_le_cast, nat_nonneg, Option.isSome_some, Option.isSome_none, Bool.false_eq_true, false_and, and_false, if_true, if_false, implies_true, Int.toNat_zero, Bool.not_false, Bool.not_true, bne_self_eq_false]; done) | (simp only [decide_true, decide_false, eq_self, and_true, true_and, and_self, cond_true, cond_false, Nat.le_refl, Int.le_refl, Option.getD_some, Option.getD_none, Int.toNat_natCast, List.take_length, List.drop_zero, Nat.zero_add, List.nil_append, List.all_nil, List.append_nil, Bool.true_and, Bool.and_true, rowsA_sla, rowsA_sl, rowsA_nil, minus_zero, nat_le_cast, nat_nonneg, Option.isSome_some, Option.isSome_none, Bool.false_eq_true, false_and, and_false, if_true, if_false, implies_true, Int.toNat_zero, Bool.not_false, Bool.not_true, bne_self_eq_false]; rfl))

theorem pos_spec (id : Int) : ∀ es : List (List DV), posB es id ≤ es.length ∧ (∀ i (_ : i < posB es id) (h2 : i < es.length), cel es[i] < id) ∧ ∀ h : posB es id < es.length, id ≤ cel es[posB es id]
  | [] => ⟨by simp [posB], fun i h _ => by simp [posB] at h, fun h => by simp at h⟩
  | e :: l => by
    obtain ⟨h1, h2, h3⟩ := pos_spec id l
    unfold posB at *
    simp only [List.takeWhile_cons]
    by_cases hc : cel e < id
    · simp only [decide_eq_true hc, if_true, List.length_cons]
      refine ⟨by omega, fun i hi hl => ?_, fun h => ?_⟩
      · cases i with
        | zero => simpa using hc
        | succ i => simpa using h2 i (by omega) (by simpa using hl)
      · simpa using h3 (by omega)
    · simp only [decide_eq_false hc, Bool.false_eq_true, if_false, List.length_nil]
      refine ⟨by omega, fun i hi => by omega, fun h => ?_⟩
      simp only [List.getElem_cons_zero]
      omega
theorem asc_pair : ∀ (es : List (List DV)) (last : Int), ascB last es = true → (∀ e ∈ es, last < cel e) ∧ es.Pairwise (fun a b => cel a < cel b)
  | [], _, _ => ⟨by simp, by simp⟩
  | e :: l, last, h => by
    simp only [ascB, Bool.and_eq_true, Bool.not_eq_true', decide_eq_false_iff_not] at h
    obtain ⟨h1, h2⟩ := asc_pair l _ h.2
    refine ⟨fun x hx => ?_, List.pairwise_cons.2 ⟨h1, h2⟩⟩
    rcases List.mem_cons.1 hx with rfl | hx
    · omega
    · have := h1 x hx
      omega
theorem asc_lt {es : List (List DV)} (h : ascB 0 es = true) {i j : Nat} (hij : i < j) (hj : j < es.length) : cel es[i] < cel es[j] :=
  List.pairwise_iff_getElem.1 (asc_pair es 0 h).2 i j (by omega) hj hij
theorem pos_ge {es : List (List DV)} (h : ascB 0 es = true) {id : Int} {i : Nat} (hi : posB es id ≤ i) (hl : i < es.length) : id ≤ cel es[i] := by
  have h3 := (pos_spec id es).2.2 (by omega)
  by_cases he : i = posB es id
  · subst he
    exact h3
  · have := asc_lt h (show posB es id < i by omega) hl
    omega
theorem has_pos {es : List (List DV)} (h : ascB 0 es = true) (id : Int) : hasB es id = (if hp : posB es id < es.length then decide (cel es[posB es id] = id) else false) := by
  have key : hasB es id = true ↔ ∃ hp : posB es id < es.length, cel es[posB es id] = id := by
    unfold hasB
    rw [List.any_eq_true]
    constructor
    · rintro ⟨e, he, hc⟩
      obtain ⟨i, hi, rfl⟩ := List.getElem_of_mem he
      have hc' : cel es[i] = id := by simpa using hc
      have h1 : posB es id ≤ i := by
        apply Nat.le_of_not_lt
        intro hlt
        have := (pos_spec id es).2.1 i hlt hi
        omega
      have hp : posB es id < es.length := by omega
      refine ⟨hp, ?_⟩
      have h2 := pos_ge h (Nat.le_refl _) hp (id := id)
      by_cases he : i = posB es id
      · subst he; exact hc'
      · have := asc_lt h (show posB es id < i by omega) hi
        omega
    · rintro ⟨hp, hc⟩
      exact ⟨_, List.getElem_mem hp, by simpa using hc⟩
  split
  · rename_i hp
    by_cases hc : cel es[posB es id] = id
    · rw [decide_eq_true hc]
      exact key.2 ⟨hp, hc⟩
    · rw [decide_eq_false hc]
      cases hb : hasB es id with
      | false => rfl
      | true =>
        obtain ⟨_, h2⟩ := key.1 hb
        exact absurd h2 hc
  · rename_i hp
    cases hb : hasB es id with
    | false => rfl
    | true =>
      obtain ⟨h2, _⟩ := key.1 hb
      exact absurd h2 hp
theorem half {i j : Nat} (h1 : i ≤ 100000) (h2 : j ≤ 100000) : IntKind.i64.wrap ((IntKind.u64.wrap (IntKind.i64.wrap ((i : Int) + (j : Int)))).fdiv ((2 : Int) ^ min (1 : Nat) IntKind.u64.bits)) = (((i + j) / 2 : Nat) : Int) := by
  rw [show (2 : Int) ^ min (1 : Nat) IntKind.u64.bits = 2 from by decide, wrap_fits (n := (i : Int) + (j : Int)) (by omega) (by omega)]
  rw [show IntKind.u64.wrap ((i : Int) + (j : Int)) = (i : Int) + (j : Int) by simp only [IntKind.wrap, IntKind.bits, IntKind.signed]; simp; omega]
  rw [Int.fdiv_eq_ediv_of_nonneg _ (by omega), wrap_fits (by omega) (by omega)]
  omega
theorem loop350 (L n : Nat) {es : List (List DV)} (hz : ∀ e ∈ es, okRow z1 e = true) (hl : es.length ≤ 1000) (ha : ascB 0 es = true) (id N : Int) :
    LoopOk (LB tab noSp lx L (n+4) h350 c35l0) (S350 (.sla false 1 es) id N 0 (es.length : Nat)) (.ex 0, St.of [(0, .d (.sla false 1 es)), (1, .d (.int .i64 id)), (6, .d (.int .i64 N)), (7, .d (.int .i64 (posB es id)))] []) := by
  have hp := (pos_spec id es).1
  refine loop_meas (fun s : Nat × Nat => S350 (.sla false 1 es) id N (s.1 : Nat) (s.2 : Nat)) (fun s => s.2 - s.1) (fun s => s.1 ≤ posB es id ∧ posB es id ≤ s.2 ∧ s.2 ≤ es.length) (fun _ => (.ex 0, St.of [(0, .d (.sla false 1 es)), (1, .d (.int .i64 id)), (6, .d (.int .i64 N)), (7, .d (.int .i64 (posB es id)))] []))
    (fun s hs => ?_) (0, es.length) ⟨by omega, hp, Nat.le_refl _⟩
  obtain ⟨i, j⟩ := s
  simp only at hs ⊢
  obtain ⟨h1, h2, h3⟩ := hs
  by_cases hij : i < j
  · left
    have hh : (i + j) / 2 < es.length := by omega
    have hzi := hz _ (List.getElem_mem hh)
    have hstep : ∀ k, LB tab noSp lx L (n+4) h350 c35l0 (S350 (.sla false 1 es) id N (i : Nat) (j : Nat)) k = cond (decide (cel es[(i + j) / 2] < id)) (k .nrm (S350 (.sla false 1 es) id N (((i + j) / 2 + 1 : Nat) : Int) (j : Nat))) (k .nrm (S350 (.sla false 1 es) id N (i : Nat) (((i + j) / 2 : Nat) : Int))) := by
      intro k
      rw [s350, lt_dec hij, cond_true, half (by omega) (by omega), decide_eq_true (show (0 : Int) ≤ (((i + j) / 2 : Nat) : Int) by omega), cond_true, look_at hh, hzi, cond_true, wrap_succ (by omega)]
      rfl
    by_cases hc : cel es[(i + j) / 2] < id
    · refine ⟨((i + j) / 2 + 1, j), ⟨?_, h2, h3⟩, by simp only; omega, trivial, fun k => by rw [hstep, decide_eq_true hc]; rfl⟩
      apply Nat.lt_of_not_le
      intro hle
      have := pos_ge ha hle hh
      omega
    · refine ⟨(i, (i + j) / 2), ⟨h1, ?_, by omega⟩, by simp only; omega, trivial, fun k => by rw [hstep, decide_eq_false hc]; rfl⟩
      apply Nat.le_of_not_lt
      intro hlt
      exact hc ((pos_spec id es).2.1 _ hlt hh)
  · right
    have : i = posB es id := by omega
    refine ⟨by simp, fun k => ?_⟩
    rw [s350, decide_eq_false (show ¬ (i : Int) < (j : Int) by omega), cond_false, this]
theorem find35 : findS.ok Try.prog 35 := fun ds r hD hv => by
  obtain ⟨x, id, rfl, ⟨hx, hz, hl⟩, ha⟩ := hD
  cases hv
  refine EntX.gen1 hx (spec_run (lsp := lx) tab_ok noSp_ok 20 (0 + 8) ((t35 20 0 (rowsA x) id).trans ?_))
  generalize rowsA x = es at *
  try simp only [rowsA_sla]
  refine (need_pos (loop350 20 (0 + 4) hz hl ha id _)).trans ?_
  have hh := has_pos ha id
  by_cases hp : posB es id < es.length
  · rw [dif_pos hp] at hh
    rw [@decide_eq_true _ _ (show ((posB es id : Nat) : Int) < (es.length : Int) by omega), cond_true]
    have hlk : es[posB es id]? = some es[posB es id] := List.getElem?_eq_getElem hp
    rw [hlk]
    simp only [lookK_some, hz _ (List.getElem_mem hp), cond_true]
    unfold cel at hh
    by_cases hc : (cellA es[posB es id] 0).toI = id
    · rw [decide_eq_true hc] at hh
      rw [show ((cellA es[posB es id] 0).toI == id) = true by simpa using hc, hh]
      rfl
    · rw [decide_eq_false hc] at hh
      rw [show ((cellA es[posB es id] 0).toI == id) = false by simpa using hc, hh]
      rfl
  · rw [dif_neg hp] at hh
    rw [@decide_eq_false _ _ (show ¬ ((posB es id : Nat) : Int) < (es.length : Int) by omega), hh]
    rfl
theorem spF_ok : ∀ f s, spF f = some s → s.ok Try.prog f := spAdd_ok find35 noSp_ok
theorem has17 : hasA.ok Try.prog 17 := fun ds r hD hv => by
  obtain ⟨x, id, rfl, ⟨hx, hz, hl⟩, ha⟩ := hD
  cases hv
  refine EntX.gen1 hx (spec_run (lsp := lx) tab_ok spF_ok 20 (0 + 8) ((t17 20 0 (rowsA x) id).trans ?_))
  exact need_pos ⟨_, _, rfl, ⟨Sl.sla _ _ _, hz, hl⟩, ha⟩
theorem loop180 (L n : Nat) {es : List (List DV)} (hz : ∀ e ∈ es, okRow z1 e = true) (hl : es.length ≤ 1000) (id : Int) : ∀ r, (LR.br (hasB es id) (.one .ret (St.of [(4, .d (.bool true))] [])) (.one (.ex 0) (St.of [] []))).val = some r →
    LoopOk (LB tab noSp lx L (n+4) h180 c18l0) (S180 (.sla false 1 es) id 0) r := by
  intro r hr
  have key := loop_list (f := LB tab noSp lx L (n+4) h180 c18l0) (fun i => S180 (.sla false 1 es) id (i : Nat)) es (fun i => ((LR.br (hasB (es.drop i) id) (.one .ret (St.of [(4, .d (.bool true))] [])) (.one (.ex 0) (St.of [] []))).val).getD (.nrm, St.of [] []))
    (fun i hi => by
      have hzi := hz es[i] (List.getElem_mem hi)
      have hd : hasB (es.drop i) id = ((cel es[i] == id) || hasB (es.drop (i + 1)) id) := by
        unfold hasB
        rw [List.drop_eq_getElem_cons hi, List.any_cons]
      have hstep : ∀ k, LB tab noSp lx L (n+4) h180 c18l0 (S180 (.sla false 1 es) id (i : Nat)) k = cond (cel es[i] == id) (k .ret (St.of [(4, .d (.bool true))] [])) (k .nrm (S180 (.sla false 1 es) id ((i + 1 : Nat) : Int))) := by
        intro k
        rw [s180, lt_dec hi, cond_true, look_nat hi, hzi, cond_true, wrap_succ (by omega)]
        rfl
      cases hc : (cel es[i] == id) with
      | true =>
        right
        simp only [hd, hc, Bool.true_or, LR.val, cond_true, Option.getD_some]
        exact ⟨by simp, fun k => by rw [hstep, hc]; rfl⟩
      | false =>
        left
        simp only [hd, hc, Bool.false_or]
        exact ⟨fun k => by rw [hstep, hc]; rfl, trivial⟩)
    (by
      simp only [List.drop_length, hasB, List.any_nil, LR.val, cond_false, Option.getD_some]
      exact ⟨by simp, fun k => by rw [s180, lt_dec_self]; rfl⟩)
  simp only [List.drop_zero, hr, Option.getD_some] at key
  exact key
theorem has18 : hasS.ok Try.prog 18 := fun ds r hD hv => by
  obtain ⟨x, id, rfl, hx, hz, hl⟩ := hD
  cases hv
  refine EntX.gen1 hx (spec_run (lsp := lx) tab_ok noSp_ok 20 (0 + 8) ((t18 20 0 (rowsA x) id).trans ?_))
  generalize rowsA x = es at *
  try simp only [rowsA_sla]
  have h := loop180 20 (0 + 4) hz hl id
  cases hb : hasB es id with
  | true =>
    rw [hb] at h
    exact (need_pos (h _ rfl)).trans rfl
  | false =>
    rw [hb] at h
    exact (need_pos (h _ rfl)).trans rfl
theorem spR_ok : ∀ f s, spR f = some s → s.ok Try.prog f := spAdd_ok has18 noSp_ok
theorem all_one {es : List (List DV)} (h : ∀ e ∈ es, okRow z1 e = true) : (es.all fun (e : List DV) => e.length == 1 && e.all DV.one) = true := by
  rw [List.all_eq_true]
  intro e he
  obtain ⟨n, rfl⟩ := okRow_one (h e he)
  rfl
theorem roomN {n : Nat} (h : n ≤ 1000000) : decide (n * 8 ≤ room ∧ n ≤ room) = true := decide_eq_true (by unfold room; omega)
theorem ins36 : insS.ok Try.prog 36 := fun ds r hD hv => by
  obtain ⟨es, i, y, id, hds, hl, hy, hyr⟩ := hD
  rcases hds with ⟨rfl, hi⟩ | ⟨rfl, rfl, rfl⟩
  · simp only [insS, Option.some.injEq] at hv
    subst hv
    rw [Int.toNat_natCast, hyr]
    by_cases hlt : i < es.length
    · exact ins36_lt hlt rfl rfl hy hyr (by omega)
    · have : i = es.length := by omega
      subst this
      rw [List.take_length, List.drop_length]
      have hle : DLe y (.sla false 1 (rowsA y)) := hy.le
      rw [hyr] at hle
      refine EntX.mvargs (LLe.cons (DLe.refl _) (LLe.cons hle (LLe.refl _))) (spec_run (lsp := lx) tab_ok noSp_ok 20 (0 + 8) ((t36 20 0 es _ id).trans ?_))
      have hsz : decide ((es ++ [[DV.int .i64 id]]).length * 8 ≤ room ∧ (es ++ [[DV.int .i64 id]]).length ≤ room) = true := roomN (by rw [List.length_append]; simp; omega)
      have h3 : ((es.length : Int) == (es.length : Int)) = true := beq_self_eq_true _
      rw [hsz, decide_eq_true (show (0 : Int) ≤ (es.length : Int) by omega), h3, cond_true]
      simp only [Int.le_refl, decide_true, cond_true]
      rfl
  · simp only [insS, Option.some.injEq] at hv
    subst hv
    rw [hyr]
    have hle : DLe y (.sla false 1 (rowsA y)) := hy.le
    rw [hyr] at hle
    exact EntX.args (LLe.cons (DLe.refl _) (LLe.cons (DLe.refl _) (LLe.cons hle (LLe.refl _)))) rfl rfl (spec_run (lsp := lx) tab_ok noSp_ok 20 (0 + 8) (t36n 20 0 id))
theorem spA_ok : ∀ f s, spA f = some s → s.ok Try.prog f := spAdd_ok find35 (spAdd_ok ins36 noSp_ok)
end Go.Proofs.Ytngghbloijkfoaa
