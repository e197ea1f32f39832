/- FitsOrder: the runs. No condition. -/
import Derived.Test.YthjcfiekdejdgaaHe
import Derived.Test.YthjcfiekdejdgaaVmT
namespace Go.Proofs.Ythjcfiekdejdgaa
open Go Go.Proofs Go.RowKit Vm
set_option linter.unusedVariables false
set_option linter.unusedSimpArgs false
def S50 (t : Int) (b : List DV) (r : List (List DV)) (v : AV) (i : Int) (o1 o2 : Option Ob) : St := St.of [(3, .d (.int .i64 t)), (9, .ptr 9 4 0 0), (10, .d (.sla false 7 r)), (11, v), (12, .d (.int .i64 i))] [(23, none), (25, none), (44, o1), (50044, o2), (9, some (.dat 26 4 [b]))]
def E50 (b : List DV) (r : List (List DV)) (v : AV) (o1 o2 : Option Ob) : St := St.of [(9, .ptr 9 4 0 0), (10, .d (.sla false 7 r)), (11, v)] [(23, none), (25, none), (44, o1), (50044, o2), (9, some (.dat 26 4 [b]))]
/-- the row turned -/
def rotP (r : List (List DV)) (a i : Nat) : List DV := pay7 (r[(i + a) % r.length]?.getD [])
def rot (r : List (List DV)) (t : Int) : List (List DV) := outN r.length (fun _ => true) (rotP r (and64 t 63).toNat)
def l50 : LSpec := fun st => match st.env 3, st.env 10, st.seg 9 with
  | .d (.int _ t), .d (.sla _ _ r), some (.dat _ _ [[x, y, z, u]]) => collR (E50 [x, y, z, u] r) 44 50044 31 7 (rot r t)
  | _, _, _ => .no
def S15 (x y : List (List DV)) (j : Int) : St := St.of [(0, .d (.sla false 1 x)), (1, .d (.sla false 1 y)), (5, .d (.int .i64 j))] []
def l15 : LSpec := fun st => .one (.ex 0) (St.of [] [])
def lG5 (k : Nat) : Option LSpec := if k = 50 then some l50 else if k = 150 then some l15 else none
def inoS : FSpec where
  D ds := ∃ x y, ds = [x, y] ∧ Sl 1 x ∧ Sl 1 y ∧ rowsA x = rowsA y ∧ (rowsA x).length ≤ 1000 ∧ ∀ e ∈ rowsA x, okRow z1 e = true
  val ds := some (.bool true)
/-- who is short of three, told by three answers -/
def outE (a b c : Bool) : List (List DV) := cond a [[.int .i64 0]] [] ++ (cond b [[.int .i64 1]] [] ++ cond c [[.int .i64 2]] [])
def shoC (a b c : Bool) : FSpec where
  D ds := ∃ ac bs ms qs x, ds = [.agg (bk ac bs ms qs), x] ∧ BK ac bs ms qs ∧ Sl 7 x ∧ (rowsA x).length ≤ 1000 ∧ (∀ e ∈ rowsA x, PO ac.length e) ∧ ac.length = 3 ∧ shP ac bs ms qs (rowsA x) 0 = a ∧ shP ac bs ms qs (rowsA x) 1 = b ∧ shP ac bs ms qs (rowsA x) 2 = c
  val ds := some (match a, b, c with | false, false, false => .nilsl | a, b, c => .sl (.own 3) 1 (outE a b c))
noncomputable def spO (a b c : Bool) : FuncId → Option FSpec := spAdd 19 someS (spAdd 20 rowS (spAdd 15 inoS (spAdd 16 (shoC a b c) (spAdd 18 trueS noSp))))
def bkw (h : List (List DV)) (w : Int) : DV := .agg (bk (bA h w) (bB w) (bM w) (bQ w))
def shW (h : List (List DV)) (w : Int) (r : List (List DV)) : List (List DV) := outL 3 (shP (bA h w) (bB w) (bM w) (bQ w) r)
def outX (a b c : Bool) : DV := match a, b, c with | false, false, false => .nilsl | a, b, c => .sl .ro 1 (outE a b c)
noncomputable def aftK (a b c : Bool) (h : List (List DV)) (w : Int) (x : DV) : Option DV := need ((shoC a b c).D [bkw h w, x]) (need (inoS.D [outX a b c, outX a b c]) (need (trueS.D []) (some (.bool true))))
noncomputable def aftO (a b c : Bool) (h : List (List DV)) (w : Int) (r O : List (List DV)) : Option DV := need ((shoC a b c).D [bkw h w, .sla false 7 r]) (cond (decide (0 + O.length ≤ O.length)) (aftK a b c h w (.sl .ro 7 (List.take O.length O))) none)
def bw (h : List (List DV)) (w : Int) : List DV := bk (bA h w) (bB w) (bM w) (bQ w)
noncomputable def f50 (a b c : Bool) (n : Nat) : St → Kont → Option DV := LB tab (spO a b c) lG5 20 (n+8) h50 c5l0
theorem s50A (L n : Nat) (a b c : Bool) (t : Int) (x y z u : DV) (r : List (List DV)) (i : Nat) (k : Kont) : LB tab (spO a b c) lG5 L (n+4) h50 c5l0 (S50 t [x, y, z, u] r (.d .nilsl) i none none) k =
   (bif decide ((↑i : Int) < (↑r.length : Int)) then
 bif decide ((↑r.length : Int) = (0 : Int)) then none
 else
 bif
 decide
 ((0 : Int) ≤
 (IntKind.i64.wrap
 ((↑i : Int) + IntKind.i64.wrap (↑(BitVec.ofInt IntKind.i64.bits t &&& BitVec.ofInt IntKind.i64.bits (63 : Int)).toNat : Int))).tmod
 (↑r.length : Int)) then
 lookK
 r[((IntKind.i64.wrap
 ((↑i : Int) + IntKind.i64.wrap (↑(BitVec.ofInt IntKind.i64.bits t &&& BitVec.ofInt IntKind.i64.bits (63 : Int)).toNat : Int))).tmod
 (↑r.length : Int)).toNat]?
 fun (e3 : List DV) =>
 bif
 okRow
 [DV.int .i64 0, DV.int .i64 0, DV.int .i64 0, DV.int .i64 0, DV.int .i64 0, DV.int .i64 0, DV.int .i64 0]
 e3 then
 k Ex.nrm
 (St.of
 [(3, AV.d (DV.int .i64 t)), (9, AV.ptr 9 4 0 0),
 ((10 : Nat), AV.d (DV.sla false 7 r)), (11, AV.aref 44 7 0 (1 : Nat)),
 ((12 : Nat), AV.d (DV.int .i64 (IntKind.i64.wrap ((↑i : Int) + (1 : Int)))))]
 [(23, none), (25, none),
 ((44 : Nat),
 some
 (Ob.dat 31 7
 [[DV.int .i64 (cellA e3 0).toI, DV.int .i64 (cellA e3 1).toI, DV.int .i64 (cellA e3 2).toI, DV.int .i64 (cellA e3 3).toI, DV.int .i64 (cellA e3 4).toI, DV.int .i64 (cellA e3 5).toI, DV.int .i64 (cellA e3 6).toI]])),
 ((50044 : Nat), none), (9, some (Ob.dat 26 4 [[x, y, z, u]]))])
 else none
 else none
 else
 k (Ex.ex (0 : Nat))
 (St.of [(9, AV.ptr 9 4 0 0), (10, AV.d (DV.sla false 7 r)), (11, AV.d DV.nilsl)]
 [(23, none), (25, none), (44, none), (50044, none),
 ((9 : Nat), some (Ob.dat 26 4 [[x, y, z, u]]))])) :=
  (show LB tab (spO a b c) lG5 L (n+4) h50 c5l0 (S50 t [x, y, z, u] r (.d .nilsl) i none none) k =
 (cond (decide ((↑i : Int) < (↑r.length : Int)))
 (cond (decide ((↑r.length : Int) = (0 : Int)))
 none
 (cond (decide ((0 : Int) ≤ (IntKind.i64.wrap ((↑i : Int) + IntKind.i64.wrap (↑(BitVec.ofInt IntKind.i64.bits t &&& BitVec.ofInt IntKind.i64.bits (63 : Int)).toNat : Int))).tmod (↑r.length : Int)))
 (lookK (r[((IntKind.i64.wrap ((↑i : Int) + IntKind.i64.wrap (↑(BitVec.ofInt IntKind.i64.bits t &&& BitVec.ofInt IntKind.i64.bits (63 : Int)).toNat : Int))).tmod (↑r.length : Int)).toNat]?)
 fun e3 =>
 (cond (okRow [DV.int .i64 0, DV.int .i64 0, DV.int .i64 0, DV.int .i64 0, DV.int .i64 0, DV.int .i64 0, DV.int .i64 0] e3)
 (k .nrm (St.of [(3, (.d (.int .i64 t))), (9, (.ptr 9 4 0 0)), (10, (.d (.sla false 7 r))), (11, (.aref 44 7 0 1)), (12, (.d (.int .i64 (IntKind.i64.wrap ((↑i : Int) + (1 : Int))))))] [(23, .none), (25, .none), (44, (.some (.dat 31 7 [[(.int .i64 ((cellA e3 0).toI)), (.int .i64 ((cellA e3 1).toI)), (.int .i64 ((cellA e3 2).toI)), (.int .i64 ((cellA e3 3).toI)), (.int .i64 ((cellA e3 4).toI)), (.int .i64 ((cellA e3 5).toI)), (.int .i64 ((cellA e3 6).toI))]]))), (50044, .none), (9, (.some (.dat 26 4 [[x, y, z, u]])))]))
 none))
 none))
 (k (.ex 0) (St.of [(9, (.ptr 9 4 0 0)), (10, (.d (.sla false 7 r))), (11, (.d .nilsl))] [(23, .none), (25, .none), (44, .none), (50044, .none), (9, (.some (.dat 26 4 [[x, y, z, u]])))]))) from by kernel_rfl).trans (by first | rfl | (simp only [decide_true, decide_false, eq_self, and_true, true_and, and_self, cond_true, cond_false, Nat.le_refl, Int.le_refl, Option.getD_some, Option.getD_none, Int.toNat_natCast, List.take_length, List.drop_zero, Nat.zero_add, List.nil_append, List.all_nil, List.append_nil, Bool.true_and, Bool.and_true, rowsA_sla, rowsA_sl, rowsA_nil, minus_zero, nat_le_cast, nat_nonneg, Option.isSome_some, Option.isSome_none, Bool.false_eq_true, false_and, and_false, if_true, if_false, implies_true, Int.toNat_zero, Bool.not_false, Bool.not_true, bne_self_eq_false]; done) | (simp only [decide_true, decide_false, eq_self, and_true, true_and, and_self, cond_true, cond_false, Nat.le_refl, Int.le_refl, Option.getD_some, Option.getD_none, Int.toNat_natCast, List.take_length, List.drop_zero, Nat.zero_add, List.nil_append, List.all_nil, List.append_nil, Bool.true_and, Bool.and_true, rowsA_sla, rowsA_sl, rowsA_nil, minus_zero, nat_le_cast, nat_nonneg, Option.isSome_some, Option.isSome_none, Bool.false_eq_true, false_and, and_false, if_true, if_false, implies_true, Int.toNat_zero, Bool.not_false, Bool.not_true, bne_self_eq_false]; rfl))
theorem s50B (L n : Nat) (a b c : Bool) (t : Int) (x y z u : DV) (r O : List (List DV)) (i : Nat) (k : Kont) : LB tab (spO a b c) lG5 L (n+4) h50 c5l0 (S50 t [x, y, z, u] r (.aref 44 7 0 O.length) i (some (.dat 31 7 O)) none) k =
   (bif decide ((↑i : Int) < (↑r.length : Int)) then
 bif decide ((↑r.length : Int) = (0 : Int)) then none
 else
 bif
 decide
 ((0 : Int) ≤
 (IntKind.i64.wrap
 ((↑i : Int) + IntKind.i64.wrap (↑(BitVec.ofInt IntKind.i64.bits t &&& BitVec.ofInt IntKind.i64.bits (63 : Int)).toNat : Int))).tmod
 (↑r.length : Int)) then
 lookK
 r[((IntKind.i64.wrap
 ((↑i : Int) + IntKind.i64.wrap (↑(BitVec.ofInt IntKind.i64.bits t &&& BitVec.ofInt IntKind.i64.bits (63 : Int)).toNat : Int))).tmod
 (↑r.length : Int)).toNat]?
 fun (e3 : List DV) =>
 bif
 okRow
 [DV.int .i64 0, DV.int .i64 0, DV.int .i64 0, DV.int .i64 0, DV.int .i64 0, DV.int .i64 0, DV.int .i64 0]
 e3 then
 bif
 decide
 ((O ++
 [[DV.int .i64 (cellA e3 0).toI, DV.int .i64 (cellA e3 1).toI, DV.int .i64 (cellA e3 2).toI, DV.int .i64 (cellA e3 3).toI, DV.int .i64 (cellA e3 4).toI, DV.int .i64 (cellA e3 5).toI, DV.int .i64 (cellA e3 6).toI]]).length *
 (56 : Nat) ≤
 room ∧
 (O ++
 [[DV.int .i64 (cellA e3 0).toI, DV.int .i64 (cellA e3 1).toI, DV.int .i64 (cellA e3 2).toI, DV.int .i64 (cellA e3 3).toI, DV.int .i64 (cellA e3 4).toI, DV.int .i64 (cellA e3 5).toI, DV.int .i64 (cellA e3 6).toI]]).length ≤
 room) then
 k Ex.nrm
 (St.of
 [(3, AV.d (DV.int .i64 t)), (9, AV.ptr 9 4 0 0),
 ((10 : Nat), AV.d (DV.sla false 7 r)),
 ((11 : Nat),
 AV.aref (alt (44 : Nat) (44 : Nat)) (7 : Nat) (0 : Nat)
 (O ++
 [[DV.int .i64 (cellA e3 0).toI, DV.int .i64 (cellA e3 1).toI, DV.int .i64 (cellA e3 2).toI, DV.int .i64 (cellA e3 3).toI, DV.int .i64 (cellA e3 4).toI, DV.int .i64 (cellA e3 5).toI, DV.int .i64 (cellA e3 6).toI]]).length),
 ((12 : Nat), AV.d (DV.int .i64 (IntKind.i64.wrap ((↑i : Int) + (1 : Int)))))]
 [(23, none), (25, none), (44, none),
 ((50044 : Nat),
 some
 (Ob.dat 31 7
 (O ++
 [[DV.int .i64 (cellA e3 0).toI, DV.int .i64 (cellA e3 1).toI, DV.int .i64 (cellA e3 2).toI, DV.int .i64 (cellA e3 3).toI, DV.int .i64 (cellA e3 4).toI, DV.int .i64 (cellA e3 5).toI, DV.int .i64 (cellA e3 6).toI]]))),
 ((9 : Nat), some (Ob.dat 26 4 [[x, y, z, u]]))])
 else none
 else none
 else none
 else
 k (Ex.ex (0 : Nat))
 (St.of
 [(9, AV.ptr 9 4 0 0), (10, AV.d (DV.sla false 7 r)),
 ((11 : Nat), AV.aref 44 7 0 O.length)]
 [(23, none), (25, none), (44, some (Ob.dat 31 7 O)), (50044, none),
 ((9 : Nat), some (Ob.dat 26 4 [[x, y, z, u]]))])) :=
  (show LB tab (spO a b c) lG5 L (n+4) h50 c5l0 (S50 t [x, y, z, u] r (.aref 44 7 0 O.length) i (some (.dat 31 7 O)) none) k =
 (cond (decide ((↑i : Int) < (↑r.length : Int)))
 (cond (decide ((↑r.length : Int) = (0 : Int)))
 none
 (cond (decide ((0 : Int) ≤ (IntKind.i64.wrap ((↑i : Int) + IntKind.i64.wrap (↑(BitVec.ofInt IntKind.i64.bits t &&& BitVec.ofInt IntKind.i64.bits (63 : Int)).toNat : Int))).tmod (↑r.length : Int)))
 (lookK (r[((IntKind.i64.wrap ((↑i : Int) + IntKind.i64.wrap (↑(BitVec.ofInt IntKind.i64.bits t &&& BitVec.ofInt IntKind.i64.bits (63 : Int)).toNat : Int))).tmod (↑r.length : Int)).toNat]?)
 fun e3 =>
 (cond (okRow [DV.int .i64 0, DV.int .i64 0, DV.int .i64 0, DV.int .i64 0, DV.int .i64 0, DV.int .i64 0, DV.int .i64 0] e3)
 (cond (decide ((31 : TypeId) = (31 : Nat) ∧ (7 : Nat) = (7 : Nat) ∧ (7 : Nat) = (7 : Nat) ∧ (0 : Nat) = (0 : Nat) ∧ O.length = O.length ∧ (O ++ [[DV.int .i64 (cellA e3 0).toI, DV.int .i64 (cellA e3 1).toI, DV.int .i64 (cellA e3 2).toI, DV.int .i64 (cellA e3 3).toI, DV.int .i64 (cellA e3 4).toI, DV.int .i64 (cellA e3 5).toI, DV.int .i64 (cellA e3 6).toI]]).length * (56 : Nat) ≤ room ∧ (O ++ [[DV.int .i64 (cellA e3 0).toI, DV.int .i64 (cellA e3 1).toI, DV.int .i64 (cellA e3 2).toI, DV.int .i64 (cellA e3 3).toI, DV.int .i64 (cellA e3 4).toI, DV.int .i64 (cellA e3 5).toI, DV.int .i64 (cellA e3 6).toI]]).length ≤ room))
 (k .nrm (St.of [(3, (.d (.int .i64 t))), (9, (.ptr 9 4 0 0)), (10, (.d (.sla false 7 r))), (11, (.aref (alt 44 44) 7 0 ((O ++ [[DV.int .i64 (cellA e3 0).toI, DV.int .i64 (cellA e3 1).toI, DV.int .i64 (cellA e3 2).toI, DV.int .i64 (cellA e3 3).toI, DV.int .i64 (cellA e3 4).toI, DV.int .i64 (cellA e3 5).toI, DV.int .i64 (cellA e3 6).toI]]).length))), (12, (.d (.int .i64 (IntKind.i64.wrap ((↑i : Int) + (1 : Int))))))] [(23, .none), (25, .none), (44, .none), (50044, (.some (.dat 31 7 (O ++ [[DV.int .i64 (cellA e3 0).toI, DV.int .i64 (cellA e3 1).toI, DV.int .i64 (cellA e3 2).toI, DV.int .i64 (cellA e3 3).toI, DV.int .i64 (cellA e3 4).toI, DV.int .i64 (cellA e3 5).toI, DV.int .i64 (cellA e3 6).toI]])))), (9, (.some (.dat 26 4 [[x, y, z, u]])))]))
 none)
 none))
 none))
 (k (.ex 0) (St.of [(9, (.ptr 9 4 0 0)), (10, (.d (.sla false 7 r))), (11, (.aref 44 7 0 (O.length)))] [(23, .none), (25, .none), (44, (.some (.dat 31 7 O))), (50044, .none), (9, (.some (.dat 26 4 [[x, y, z, u]])))]))) from by kernel_rfl).trans (by first | rfl | (simp only [decide_true, decide_false, eq_self, and_true, true_and, and_self, cond_true, cond_false, Nat.le_refl, Int.le_refl, Option.getD_some, Option.getD_none, Int.toNat_natCast, List.take_length, List.drop_zero, Nat.zero_add, List.nil_append, List.all_nil, List.append_nil, Bool.true_and, Bool.and_true, rowsA_sla, rowsA_sl, rowsA_nil, minus_zero, nat_le_cast, nat_nonneg, Option.isSome_some, Option.isSome_none, Bool.false_eq_true, false_and, and_false, if_true, if_false, implies_true, Int.toNat_zero, Bool.not_false, Bool.not_true, bne_self_eq_false]; done) | (simp only [decide_true, decide_false, eq_self, and_true, true_and, and_self, cond_true, cond_false, Nat.le_refl, Int.le_refl, Option.getD_some, Option.getD_none, Int.toNat_natCast, List.take_length, List.drop_zero, Nat.zero_add, List.nil_append, List.all_nil, List.append_nil, Bool.true_and, Bool.and_true, rowsA_sla, rowsA_sl, rowsA_nil, minus_zero, nat_le_cast, nat_nonneg, Option.isSome_some, Option.isSome_none, Bool.false_eq_true, false_and, and_false, if_true, if_false, implies_true, Int.toNat_zero, Bool.not_false, Bool.not_true, bne_self_eq_false]; rfl))
theorem s50C (L n : Nat) (a b c : Bool) (t : Int) (x y z u : DV) (r O : List (List DV)) (i : Nat) (k : Kont) : LB tab (spO a b c) lG5 L (n+4) h50 c5l0 (S50 t [x, y, z, u] r (.aref 50044 7 0 O.length) i none (some (.dat 31 7 O))) k =
   (bif decide ((↑i : Int) < (↑r.length : Int)) then
 bif decide ((↑r.length : Int) = (0 : Int)) then none
 else
 bif
 decide
 ((0 : Int) ≤
 (IntKind.i64.wrap
 ((↑i : Int) + IntKind.i64.wrap (↑(BitVec.ofInt IntKind.i64.bits t &&& BitVec.ofInt IntKind.i64.bits (63 : Int)).toNat : Int))).tmod
 (↑r.length : Int)) then
 lookK
 r[((IntKind.i64.wrap
 ((↑i : Int) + IntKind.i64.wrap (↑(BitVec.ofInt IntKind.i64.bits t &&& BitVec.ofInt IntKind.i64.bits (63 : Int)).toNat : Int))).tmod
 (↑r.length : Int)).toNat]?
 fun (e3 : List DV) =>
 bif
 okRow
 [DV.int .i64 0, DV.int .i64 0, DV.int .i64 0, DV.int .i64 0, DV.int .i64 0, DV.int .i64 0, DV.int .i64 0]
 e3 then
 bif
 decide
 ((O ++
 [[DV.int .i64 (cellA e3 0).toI, DV.int .i64 (cellA e3 1).toI, DV.int .i64 (cellA e3 2).toI, DV.int .i64 (cellA e3 3).toI, DV.int .i64 (cellA e3 4).toI, DV.int .i64 (cellA e3 5).toI, DV.int .i64 (cellA e3 6).toI]]).length *
 (56 : Nat) ≤
 room ∧
 (O ++
 [[DV.int .i64 (cellA e3 0).toI, DV.int .i64 (cellA e3 1).toI, DV.int .i64 (cellA e3 2).toI, DV.int .i64 (cellA e3 3).toI, DV.int .i64 (cellA e3 4).toI, DV.int .i64 (cellA e3 5).toI, DV.int .i64 (cellA e3 6).toI]]).length ≤
 room) then
 k Ex.nrm
 (St.of
 [(3, AV.d (DV.int .i64 t)), (9, AV.ptr 9 4 0 0),
 ((10 : Nat), AV.d (DV.sla false 7 r)),
 ((11 : Nat),
 AV.aref (alt (50044 : Nat) (44 : Nat)) (7 : Nat) (0 : Nat)
 (O ++
 [[DV.int .i64 (cellA e3 0).toI, DV.int .i64 (cellA e3 1).toI, DV.int .i64 (cellA e3 2).toI, DV.int .i64 (cellA e3 3).toI, DV.int .i64 (cellA e3 4).toI, DV.int .i64 (cellA e3 5).toI, DV.int .i64 (cellA e3 6).toI]]).length),
 ((12 : Nat), AV.d (DV.int .i64 (IntKind.i64.wrap ((↑i : Int) + (1 : Int)))))]
 [(23, none), (25, none),
 ((44 : Nat),
 some
 (Ob.dat 31 7
 (O ++
 [[DV.int .i64 (cellA e3 0).toI, DV.int .i64 (cellA e3 1).toI, DV.int .i64 (cellA e3 2).toI, DV.int .i64 (cellA e3 3).toI, DV.int .i64 (cellA e3 4).toI, DV.int .i64 (cellA e3 5).toI, DV.int .i64 (cellA e3 6).toI]]))),
 ((50044 : Nat), none), (9, some (Ob.dat 26 4 [[x, y, z, u]]))])
 else none
 else none
 else none
 else
 k (Ex.ex (0 : Nat))
 (St.of
 [(9, AV.ptr 9 4 0 0), (10, AV.d (DV.sla false 7 r)),
 ((11 : Nat), AV.aref 50044 7 0 O.length)]
 [(23, none), (25, none), (44, none), (50044, some (Ob.dat 31 7 O)),
 ((9 : Nat), some (Ob.dat 26 4 [[x, y, z, u]]))])) :=
  (show LB tab (spO a b c) lG5 L (n+4) h50 c5l0 (S50 t [x, y, z, u] r (.aref 50044 7 0 O.length) i none (some (.dat 31 7 O))) k =
 (cond (decide ((↑i : Int) < (↑r.length : Int)))
 (cond (decide ((↑r.length : Int) = (0 : Int)))
 none
 (cond (decide ((0 : Int) ≤ (IntKind.i64.wrap ((↑i : Int) + IntKind.i64.wrap (↑(BitVec.ofInt IntKind.i64.bits t &&& BitVec.ofInt IntKind.i64.bits (63 : Int)).toNat : Int))).tmod (↑r.length : Int)))
 (lookK (r[((IntKind.i64.wrap ((↑i : Int) + IntKind.i64.wrap (↑(BitVec.ofInt IntKind.i64.bits t &&& BitVec.ofInt IntKind.i64.bits (63 : Int)).toNat : Int))).tmod (↑r.length : Int)).toNat]?)
 fun e3 =>
 (cond (okRow [DV.int .i64 0, DV.int .i64 0, DV.int .i64 0, DV.int .i64 0, DV.int .i64 0, DV.int .i64 0, DV.int .i64 0] e3)
 (cond (decide ((31 : TypeId) = (31 : Nat) ∧ (7 : Nat) = (7 : Nat) ∧ (7 : Nat) = (7 : Nat) ∧ (0 : Nat) = (0 : Nat) ∧ O.length = O.length ∧ (O ++ [[DV.int .i64 (cellA e3 0).toI, DV.int .i64 (cellA e3 1).toI, DV.int .i64 (cellA e3 2).toI, DV.int .i64 (cellA e3 3).toI, DV.int .i64 (cellA e3 4).toI, DV.int .i64 (cellA e3 5).toI, DV.int .i64 (cellA e3 6).toI]]).length * (56 : Nat) ≤ room ∧ (O ++ [[DV.int .i64 (cellA e3 0).toI, DV.int .i64 (cellA e3 1).toI, DV.int .i64 (cellA e3 2).toI, DV.int .i64 (cellA e3 3).toI, DV.int .i64 (cellA e3 4).toI, DV.int .i64 (cellA e3 5).toI, DV.int .i64 (cellA e3 6).toI]]).length ≤ room))
 (k .nrm (St.of [(3, (.d (.int .i64 t))), (9, (.ptr 9 4 0 0)), (10, (.d (.sla false 7 r))), (11, (.aref (alt 50044 44) 7 0 ((O ++ [[DV.int .i64 (cellA e3 0).toI, DV.int .i64 (cellA e3 1).toI, DV.int .i64 (cellA e3 2).toI, DV.int .i64 (cellA e3 3).toI, DV.int .i64 (cellA e3 4).toI, DV.int .i64 (cellA e3 5).toI, DV.int .i64 (cellA e3 6).toI]]).length))), (12, (.d (.int .i64 (IntKind.i64.wrap ((↑i : Int) + (1 : Int))))))] [(23, .none), (25, .none), (44, (.some (.dat 31 7 (O ++ [[DV.int .i64 (cellA e3 0).toI, DV.int .i64 (cellA e3 1).toI, DV.int .i64 (cellA e3 2).toI, DV.int .i64 (cellA e3 3).toI, DV.int .i64 (cellA e3 4).toI, DV.int .i64 (cellA e3 5).toI, DV.int .i64 (cellA e3 6).toI]])))), (50044, .none), (9, (.some (.dat 26 4 [[x, y, z, u]])))]))
 none)
 none))
 none))
 (k (.ex 0) (St.of [(9, (.ptr 9 4 0 0)), (10, (.d (.sla false 7 r))), (11, (.aref 50044 7 0 (O.length)))] [(23, .none), (25, .none), (44, .none), (50044, (.some (.dat 31 7 O))), (9, (.some (.dat 26 4 [[x, y, z, u]])))]))) from by kernel_rfl).trans (by first | rfl | (simp only [decide_true, decide_false, eq_self, and_true, true_and, and_self, cond_true, cond_false, Nat.le_refl, Int.le_refl, Option.getD_some, Option.getD_none, Int.toNat_natCast, List.take_length, List.drop_zero, Nat.zero_add, List.nil_append, List.all_nil, List.append_nil, Bool.true_and, Bool.and_true, rowsA_sla, rowsA_sl, rowsA_nil, minus_zero, nat_le_cast, nat_nonneg, Option.isSome_some, Option.isSome_none, Bool.false_eq_true, false_and, and_false, if_true, if_false, implies_true, Int.toNat_zero, Bool.not_false, Bool.not_true, bne_self_eq_false]; done) | (simp only [decide_true, decide_false, eq_self, and_true, true_and, and_self, cond_true, cond_false, Nat.le_refl, Int.le_refl, Option.getD_some, Option.getD_none, Int.toNat_natCast, List.take_length, List.drop_zero, Nat.zero_add, List.nil_append, List.all_nil, List.append_nil, Bool.true_and, Bool.and_true, rowsA_sla, rowsA_sl, rowsA_nil, minus_zero, nat_le_cast, nat_nonneg, Option.isSome_some, Option.isSome_none, Bool.false_eq_true, false_and, and_false, if_true, if_false, implies_true, Int.toNat_zero, Bool.not_false, Bool.not_true, bne_self_eq_false]; rfl))
theorem s15 (L n : Nat) (x y : List (List DV)) (j : Nat) (K : Kont) : LB tab noSp lG5 L (n+4) h150 c15l0 (S15 x y j) K =
   (bif decide ((↑j : Int) < (↑x.length : Int)) then
 lookK x[j]? fun (e1 : List DV) =>
 bif okRow [DV.int .i64 0] e1 then
 lookK y[j]? fun (e4 : List DV) =>
 bif okRow [DV.int .i64 0] e4 then
 bif (cellA e1 0).toI != (cellA e4 0).toI then K Ex.ret (St.of [(4, AV.d (DV.bool false))] [])
 else
 K Ex.nrm
 (St.of
 [(0, AV.d (DV.sla false 1 x)), (1, AV.d (DV.sla false 1 y)),
 ((5 : Nat), AV.d (DV.int .i64 (IntKind.i64.wrap ((↑j : Int) + (1 : Int)))))]
 [])
 else none
 else none
 else K (Ex.ex (0 : Nat)) (St.of [] [])) :=
  (show LB tab noSp lG5 L (n+4) h150 c15l0 (S15 x y j) K =
 (cond (decide ((↑j : Int) < (↑x.length : Int)))
 (lookK (x[(↑j : Int).toNat]?)
 fun e1 =>
 (cond (okRow [DV.int .i64 0] e1)
 (lookK (y[(↑j : Int).toNat]?)
 fun e4 =>
 (cond (okRow [DV.int .i64 0] e4)
 (cond ((cellA e1 0).toI != (cellA e4 0).toI)
 (K .ret (St.of [(4, (.d (.bool false)))] []))
 (K .nrm (St.of [(0, (.d (.sla false 1 x))), (1, (.d (.sla false 1 y))), (5, (.d (.int .i64 (IntKind.i64.wrap ((↑j : Int) + (1 : Int))))))] [])))
 none))
 none))
 (K (.ex 0) (St.of [] []))) from by kernel_rfl).trans (by first | rfl | (simp only [decide_true, decide_false, eq_self, and_true, true_and, and_self, cond_true, cond_false, Nat.le_refl, Int.le_refl, Option.getD_some, Option.getD_none, Int.toNat_natCast, List.take_length, List.drop_zero, Nat.zero_add, List.nil_append, List.all_nil, List.append_nil, Bool.true_and, Bool.and_true, rowsA_sla, rowsA_sl, rowsA_nil, minus_zero, nat_le_cast, nat_nonneg, Option.isSome_some, Option.isSome_none, Bool.false_eq_true, false_and, and_false, if_true, if_false, implies_true, Int.toNat_zero, Bool.not_false, Bool.not_true, bne_self_eq_false]; done) | (simp only [decide_true, decide_false, eq_self, and_true, true_and, and_self, cond_true, cond_false, Nat.le_refl, Int.le_refl, Option.getD_some, Option.getD_none, Int.toNat_natCast, List.take_length, List.drop_zero, Nat.zero_add, List.nil_append, List.all_nil, List.append_nil, Bool.true_and, Bool.and_true, rowsA_sla, rowsA_sl, rowsA_nil, minus_zero, nat_le_cast, nat_nonneg, Option.isSome_some, Option.isSome_none, Bool.false_eq_true, false_and, and_false, if_true, if_false, implies_true, Int.toNat_zero, Bool.not_false, Bool.not_true, bne_self_eq_false]; rfl))
theorem t15o (n : Nat) (x y : List (List DV)) : FK tab noSp lG5 20 (n+8) 15 [.sla false 1 x, .sla false 1 y] =
   (bif (↑x.length : Int) != (↑y.length : Int) then some (DV.bool false)
 else
 need
 (LoopOk (LB tab noSp lG5 (20 : Nat) (n + (8 : Nat)) h150 c15l0)
 (St.of [(0, AV.d (DV.sla false 1 x)), (1, AV.d (DV.sla false 1 y)), (5, AV.d (DV.int .i64 0))]
 [])
 (Ex.ex (0 : Nat), St.of [] []))
 (some (DV.bool true))) :=
  (show FK tab noSp lG5 20 (n+8) 15 [.sla false 1 x, .sla false 1 y] =
 (cond ((↑x.length : Int) != (↑y.length : Int))
 (some (.bool false))
 (need (LoopOk (LB tab noSp lG5 ((20 : Nat)) (n + (8 : Nat)) h150 c15l0) (St.of [(0, (.d (.sla false 1 x))), (1, (.d (.sla false 1 y))), (5, (.d (.int .i64 ((0 : Int)))))] []) ((.ex 0), (St.of [] [])))
 (some (.bool true)))) from by kernel_rfl).trans (by first | rfl | (simp only [decide_true, decide_false, eq_self, and_true, true_and, and_self, cond_true, cond_false, Nat.le_refl, Int.le_refl, Option.getD_some, Option.getD_none, Int.toNat_natCast, List.take_length, List.drop_zero, Nat.zero_add, List.nil_append, List.all_nil, List.append_nil, Bool.true_and, Bool.and_true, rowsA_sla, rowsA_sl, rowsA_nil, minus_zero, nat_le_cast, nat_nonneg, Option.isSome_some, Option.isSome_none, Bool.false_eq_true, false_and, and_false, if_true, if_false, implies_true, Int.toNat_zero, Bool.not_false, Bool.not_true, bne_self_eq_false]; done) | (simp only [decide_true, decide_false, eq_self, and_true, true_and, and_self, cond_true, cond_false, Nat.le_refl, Int.le_refl, Option.getD_some, Option.getD_none, Int.toNat_natCast, List.take_length, List.drop_zero, Nat.zero_add, List.nil_append, List.all_nil, List.append_nil, Bool.true_and, Bool.and_true, rowsA_sla, rowsA_sl, rowsA_nil, minus_zero, nat_le_cast, nat_nonneg, Option.isSome_some, Option.isSome_none, Bool.false_eq_true, false_and, and_false, if_true, if_false, implies_true, Int.toNat_zero, Bool.not_false, Bool.not_true, bne_self_eq_false]; rfl))
theorem t5 (a b c : Bool) (n : Nat) (h l : List (List DV)) (w t : Int) : FK tab (spO a b c) lG5 20 (n+8) 5 [.sla false 1 h, .int .i64 w, .sla false 7 l, .int .i64 t] =
  cond (bif decide ((l.length : Int) < (1 : Int)) then true else decide ((l.length : Int) > (30 : Int))) (some (.bool true))
    (need (someS.D [.sla false 1 h, .int .i64 w]) (need (rowS.D [.sla false 7 l])
      (cond (rot (rowL l) t).isEmpty
        (need (LoopOk (f50 a b c n) (S50 t (bw h w) (rowL l) (.d .nilsl) 0 none none) (.ex 0, E50 (bw h w) (rowL l) (.d .nilsl) none none)) (need ((shoC a b c).D [bkw h w, .sla false 7 (rowL l)]) (aftK a b c h w .nilsl)))
        (cond (parB ((rot (rowL l) t).length - 1))
          (need (LoopOk (f50 a b c n) (S50 t (bw h w) (rowL l) (.d .nilsl) 0 none none) (.ex 0, E50 (bw h w) (rowL l) (.aref 44 7 0 (rot (rowL l) t).length) (some (.dat 31 7 (rot (rowL l) t))) none)) (aftO a b c h w (rowL l) (rot (rowL l) t)))
          (need (LoopOk (f50 a b c n) (S50 t (bw h w) (rowL l) (.d .nilsl) 0 none none) (.ex 0, E50 (bw h w) (rowL l) (.aref 50044 7 0 (rot (rowL l) t).length) none (some (.dat 31 7 (rot (rowL l) t))))) (aftO a b c h w (rowL l) (rot (rowL l) t))))))) := by
  cases a <;> cases b <;> cases c <;> kernel_rfl
end Go.Proofs.Ythjcfiekdejdgaa
