/- PoolParts: the run of the statement, and its loop. No condition. -/
import Derived.Test.YtianifckopijjaaPe
namespace Go.Proofs.Ytianifckopijjaa
open Go Go.Proofs Go.RowKit Vm
set_option linter.unusedVariables false
set_option linter.unusedSimpArgs false
def okR (e f : List DV) : Bool := decide (0 ≤ cel e ∧ cel e ≤ 1048576 ∧ 0 ≤ cel f ∧ cel f ≤ 68719476736)
def okP (p h : List (List DV)) : List Bool := List.zipWith okR p h
def wl (c : Int) (p h : List (List DV)) : List (List DV) := List.zipWith (fun a b => row1 (wAt [.int .i64 0, .int .i64 c] a b)) p h
def aN (c : Int) (n : Nat) : List (List DV) := List.replicate n [.int .i64 0, .int .i64 c]
def R120 : St := St.of [(6, .d (.bool true))] [(109, none), (116, none), (152, none)]
def E120 (p h : List (List DV)) (a pp hh : AV) (n : Int) (o : List (Nat × Option Ob)) : St := St.of [(0, .d (.sla false 1 p)), (1, .d (.sla false 1 h)), (7, a), (8, pp), (9, hh), (10, .d (.int .i64 n))] o
def X120 (p h : List (List DV)) (c : Int) : LR :=
  .br (allB (okP p h)) (.br (decide (p.length = 0)) (.one (.ex 0) (E120 p h (.d .nilsl) (.d .nilsl) (.d .nilsl) 0 [(90, none), (97, none), (104, none), (50090, none)]))
    (.br (decide (p.length = 1)) (.one (.ex 0) (E120 p h (.aref 90 2 0 (aN c p.length).length) (.d (.sl .tight 1 p.reverse)) (.d (.sl .tight 1 h.reverse)) (sumZ (wl c p h)) [(90, some (.dat 40 2 (aN c p.length))), (97, none), (104, none), (50090, none)]))
      (.br (decide (p.length % 2 = 1)) (.one (.ex 0) (E120 p h (.aref 90 2 0 (aN c p.length).length) (.aref 97 1 0 p.reverse.length) (.aref 104 1 0 h.reverse.length) (sumZ (wl c p h)) [(90, some (.dat 40 2 (aN c p.length))), (97, some (.dat 2 1 p.reverse)), (104, some (.dat 2 1 h.reverse)), (50090, none)]))
        (.one (.ex 0) (E120 p h (.aref 50090 2 0 (aN c p.length).length) (.aref 97 1 0 p.reverse.length) (.aref 104 1 0 h.reverse.length) (sumZ (wl c p h)) [(90, none), (97, some (.dat 2 1 p.reverse)), (104, some (.dat 2 1 h.reverse)), (50090, some (.dat 40 2 (aN c p.length)))])))))
    (.one .ret R120)
def l120 : LSpec := fun st => match st.env 0, st.env 1, st.env 2 with
  | .d x, .d y, .d (.int _ c) => X120 (rowsA x) (rowsA y) c
  | _, _, _ => .no
def lp12 (k : Nat) : Option LSpec := if k = 120 then some l120 else none
noncomputable def spY : FuncId → Option FSpec := spAdd 22 valS (spAdd 21 worthV (spAdd 27 trueS noSp))
def S120 (p h : List (List DV)) (c : Int) (a pp hh : AV) (n i : Int) (o : List (Nat × Option Ob)) : St := St.of [(0, .d (.sla false 1 p)), (1, .d (.sla false 1 h)), (2, .d (.int .i64 c)), (7, a), (8, pp), (9, hh), (10, .d (.int .i64 n)), (11, .d (.int .i64 i))] o
theorem s120n (L n : Nat) (p h : List (List DV)) (c : Int) (m : Int) (i : Nat) (k : Kont) : LB tab spY lp12 L (n+4) h120 c12l0 (S120 p h c (.d .nilsl) (.d .nilsl) (.d .nilsl) m i [(90, none), (97, none), (104, none), (50090, none)]) k =
   (bif decide ((↑i : Int) < (↑p.length : Int)) then
 lookK p[i]? fun (e1 : List DV) =>
 bif okRow [DV.int .i64 0] e1 then
 bif decide ((cellA e1 0).toI < (0 : Int)) then
 k Ex.ret (St.of [(6, AV.d (DV.bool true))] [(109, none), (116, none), (152, none)])
 else
 lookK p[i]? fun (e5 : List DV) =>
 bif okRow [DV.int .i64 0] e5 then
 bif decide ((cellA e5 0).toI > (1048576 : Int)) then
 k Ex.ret (St.of [(6, AV.d (DV.bool true))] [(109, none), (116, none), (152, none)])
 else
 lookK h[i]? fun (e9 : List DV) =>
 bif okRow [DV.int .i64 0] e9 then
 bif decide ((cellA e9 0).toI < (0 : Int)) then
 k Ex.ret (St.of [(6, AV.d (DV.bool true))] [(109, none), (116, none), (152, none)])
 else
 lookK h[i]? fun (e13 : List DV) =>
 bif okRow [DV.int .i64 0] e13 then
 bif decide ((cellA e13 0).toI > (68719476736 : Int)) then
 k Ex.ret (St.of [(6, AV.d (DV.bool true))] [(109, none), (116, none), (152, none)])
 else
 lookK p[i]? fun (e17 : List DV) =>
 bif okRow [DV.int .i64 0] e17 then
 lookK h[i]? fun (e20 : List DV) =>
 bif okRow [DV.int .i64 0] e20 then
 need
 (worthV.D
 [DV.int .i64 (cellA e17 0).toI, DV.int .i64 (cellA e20 0).toI, DV.int .i64 c])
 (lookK p[i]? fun (e24 : List DV) =>
 bif okRow [DV.int .i64 0] e24 then
 lookK h[i]? fun (e27 : List DV) =>
 bif okRow [DV.int .i64 0] e27 then
 k Ex.nrm
 (St.of
 [(0, AV.d (DV.sla false 1 p)), (1, AV.d (DV.sla false 1 h)),
 ((2 : Nat), AV.d (DV.int .i64 c)),
 ((7 : Nat),
 AV.aref (bif Nat.beq (90 : Nat) (97 : Nat) then (50097 : Nat) else (90 : Nat)) (2 : Nat) (0 : Nat)
 (1 : Nat)),
 ((8 : Nat), AV.d (DV.sl SK.tight 1 [[DV.int .i64 (cellA e24 0).toI]])),
 ((9 : Nat), AV.d (DV.sl SK.tight 1 [[DV.int .i64 (cellA e27 0).toI]])),
 ((10 : Nat),
 AV.d
 (DV.int .i64
 (IntKind.i64.wrap
 (m +
 bif wOk (cellA e17 0).toI (cellA e20 0).toI c then
 wI (cellA e17 0).toI (cellA e20 0).toI c
 else (0 : Int))))),
 ((11 : Nat), AV.d (DV.int .i64 (IntKind.i64.wrap ((↑i : Int) + (1 : Int)))))]
 [(90, some (Ob.dat 40 2 [[DV.int .i64 0, DV.int .i64 c]])),
 ((97 : Nat), none), (104, none), (50090, none)])
 else none
 else none)
 else none
 else none
 else none
 else none
 else none
 else none
 else
 k (Ex.ex (0 : Nat))
 (St.of
 [(0, AV.d (DV.sla false 1 p)), (1, AV.d (DV.sla false 1 h)), (7, AV.d DV.nilsl), (8, AV.d DV.nilsl),
 ((9 : Nat), AV.d DV.nilsl), (10, AV.d (DV.int .i64 m))]
 [(90, none), (97, none), (104, none), (50090, none)])) :=
  (show LB tab spY lp12 L (n+4) h120 c12l0 (S120 p h c (.d .nilsl) (.d .nilsl) (.d .nilsl) m i [(90, none), (97, none), (104, none), (50090, none)]) k =
 (cond (decide ((↑i : Int) < (↑p.length : Int)))
 (lookK (p[(↑i : Int).toNat]?)
 fun e1 =>
 (cond (okRow [DV.int .i64 0] e1)
 (cond (decide ((cellA e1 0).toI < (0 : Int)))
 (k .ret (St.of [(6, (.d (.bool true)))] [(109, .none), (116, .none), (152, .none)]))
 (lookK (p[(↑i : Int).toNat]?)
 fun e5 =>
 (cond (okRow [DV.int .i64 0] e5)
 (cond (decide ((cellA e5 0).toI > (1048576 : Int)))
 (k .ret (St.of [(6, (.d (.bool true)))] [(109, .none), (116, .none), (152, .none)]))
 (lookK (h[(↑i : Int).toNat]?)
 fun e9 =>
 (cond (okRow [DV.int .i64 0] e9)
 (cond (decide ((cellA e9 0).toI < (0 : Int)))
 (k .ret (St.of [(6, (.d (.bool true)))] [(109, .none), (116, .none), (152, .none)]))
 (lookK (h[(↑i : Int).toNat]?)
 fun e13 =>
 (cond (okRow [DV.int .i64 0] e13)
 (cond (decide ((cellA e13 0).toI > (68719476736 : Int)))
 (k .ret (St.of [(6, (.d (.bool true)))] [(109, .none), (116, .none), (152, .none)]))
 (lookK (p[(↑i : Int).toNat]?)
 fun e17 =>
 (cond (okRow [DV.int .i64 0] e17)
 (lookK (h[(↑i : Int).toNat]?)
 fun e20 =>
 (cond (okRow [DV.int .i64 0] e20)
 (need (FSpec.D (worthV) [(.int .i64 ((cellA e17 0).toI)), (.int .i64 ((cellA e20 0).toI)), (.int .i64 c)])
 (lookK (p[(↑i : Int).toNat]?)
 fun e24 =>
 (cond (okRow [DV.int .i64 0] e24)
 (lookK (h[(↑i : Int).toNat]?)
 fun e27 =>
 (cond (okRow [DV.int .i64 0] e27)
 (k .nrm (St.of [(0, (.d (.sla false 1 p))), (1, (.d (.sla false 1 h))), (2, (.d (.int .i64 c))), (7, (.aref (bif Nat.beq 90 97 then 50097 else 90) 2 0 1)), (8, (.d (.sl (SK.tight) 1 [[(.int .i64 ((cellA e24 0).toI))]]))), (9, (.d (.sl (SK.tight) 1 [[(.int .i64 ((cellA e27 0).toI))]]))), (10, (.d (.int .i64 (IntKind.i64.wrap (m + bif wOk (cellA e17 0).toI (cellA e20 0).toI c then wI (cellA e17 0).toI (cellA e20 0).toI c else (0 : Int)))))), (11, (.d (.int .i64 (IntKind.i64.wrap ((↑i : Int) + (1 : Int))))))] [(90, (.some (.dat 40 2 [[(.int .i64 ((0 : Int))), (.int .i64 c)]]))), (97, .none), (104, .none), (50090, .none)]))
 none))
 none)))
 none))
 none)))
 none)))
 none)))
 none)))
 none))
 (k (.ex 0) (St.of [(0, (.d (.sla false 1 p))), (1, (.d (.sla false 1 h))), (7, (.d .nilsl)), (8, (.d .nilsl)), (9, (.d .nilsl)), (10, (.d (.int .i64 m)))] [(90, .none), (97, .none), (104, .none), (50090, .none)]))) from by kernel_rfl).trans (by first | rfl | (simp only [decide_true, decide_false, eq_self, and_true, true_and, and_self, cond_true, cond_false, Nat.le_refl, Int.le_refl, Option.getD_some, Option.getD_none, Int.toNat_natCast, List.take_length, List.drop_zero, Nat.zero_add, List.nil_append, List.all_nil, List.append_nil, Bool.true_and, Bool.and_true, rowsA_sla, rowsA_sl, rowsA_nil, minus_zero, nat_le_cast, nat_nonneg, Option.isSome_some, Option.isSome_none, Bool.false_eq_true, false_and, and_false, if_true, if_false, implies_true, Int.toNat_zero, Bool.not_false, Bool.not_true, bne_self_eq_false]; done) | (simp only [decide_true, decide_false, eq_self, and_true, true_and, and_self, cond_true, cond_false, Nat.le_refl, Int.le_refl, Option.getD_some, Option.getD_none, Int.toNat_natCast, List.take_length, List.drop_zero, Nat.zero_add, List.nil_append, List.all_nil, List.append_nil, Bool.true_and, Bool.and_true, rowsA_sla, rowsA_sl, rowsA_nil, minus_zero, nat_le_cast, nat_nonneg, Option.isSome_some, Option.isSome_none, Bool.false_eq_true, false_and, and_false, if_true, if_false, implies_true, Int.toNat_zero, Bool.not_false, Bool.not_true, bne_self_eq_false]; rfl))
theorem s120o (L n : Nat) (p h A : List (List DV)) (c : Int) (m x y : Int) (i : Nat) (k : Kont) : LB tab spY lp12 L (n+4) h120 c12l0 (S120 p h c (.aref 90 2 0 A.length) (.d (.sl .tight 1 [[.int .i64 x]])) (.d (.sl .tight 1 [[.int .i64 y]])) m i [(90, some (.dat 40 2 A)), (97, none), (104, none), (50090, none)]) k =
   (bif decide ((↑i : Int) < (↑p.length : Int)) then
 lookK p[i]? fun (e1 : List DV) =>
 bif okRow [DV.int .i64 0] e1 then
 bif decide ((cellA e1 0).toI < (0 : Int)) then
 k Ex.ret (St.of [(6, AV.d (DV.bool true))] [(109, none), (116, none), (152, none)])
 else
 lookK p[i]? fun (e5 : List DV) =>
 bif okRow [DV.int .i64 0] e5 then
 bif decide ((cellA e5 0).toI > (1048576 : Int)) then
 k Ex.ret (St.of [(6, AV.d (DV.bool true))] [(109, none), (116, none), (152, none)])
 else
 lookK h[i]? fun (e9 : List DV) =>
 bif okRow [DV.int .i64 0] e9 then
 bif decide ((cellA e9 0).toI < (0 : Int)) then
 k Ex.ret (St.of [(6, AV.d (DV.bool true))] [(109, none), (116, none), (152, none)])
 else
 lookK h[i]? fun (e13 : List DV) =>
 bif okRow [DV.int .i64 0] e13 then
 bif decide ((cellA e13 0).toI > (68719476736 : Int)) then
 k Ex.ret (St.of [(6, AV.d (DV.bool true))] [(109, none), (116, none), (152, none)])
 else
 lookK p[i]? fun (e17 : List DV) =>
 bif okRow [DV.int .i64 0] e17 then
 lookK h[i]? fun (e20 : List DV) =>
 bif okRow [DV.int .i64 0] e20 then
 need
 (worthV.D
 [DV.int .i64 (cellA e17 0).toI, DV.int .i64 (cellA e20 0).toI, DV.int .i64 c])
 (bif
 decide
 ((A ++ [[DV.int .i64 0, DV.int .i64 c]]).length * (16 : Nat) ≤ room ∧
 (A ++ [[DV.int .i64 0, DV.int .i64 c]]).length ≤ room) then
 lookK p[i]? fun (e25 : List DV) =>
 bif okRow [DV.int .i64 0] e25 then
 lookK h[i]? fun (e28 : List DV) =>
 bif okRow [DV.int .i64 0] e28 then
 k Ex.nrm
 (St.of
 [(0, AV.d (DV.sla false 1 p)), (1, AV.d (DV.sla false 1 h)),
 ((2 : Nat), AV.d (DV.int .i64 c)),
 ((7 : Nat),
 AV.aref (bif (alt (90 : Nat) (90 : Nat)).beq (97 : Nat) then (50097 : Nat) else alt (90 : Nat) (90 : Nat))
 (2 : Nat) (0 : Nat) (A ++ [[DV.int .i64 0, DV.int .i64 c]]).length),
 ((8 : Nat), AV.aref 97 1 0 (2 : Nat)),
 ((9 : Nat), AV.aref 104 1 0 (2 : Nat)),
 ((10 : Nat),
 AV.d
 (DV.int .i64
 (IntKind.i64.wrap
 (m +
 bif wOk (cellA e17 0).toI (cellA e20 0).toI c then
 wI (cellA e17 0).toI (cellA e20 0).toI c
 else (0 : Int))))),
 ((11 : Nat), AV.d (DV.int .i64 (IntKind.i64.wrap ((↑i : Int) + (1 : Int)))))]
 [(90, none),
 ((97 : Nat),
 some
 (Ob.dat 2 1
 [[DV.int .i64 (cellA e25 0).toI], [DV.int .i64 x]])),
 ((104 : Nat),
 some
 (Ob.dat 2 1
 [[DV.int .i64 (cellA e28 0).toI], [DV.int .i64 y]])),
 ((50090 : Nat),
 some (Ob.dat 40 2 (A ++ [[DV.int .i64 0, DV.int .i64 c]])))])
 else none
 else none
 else none)
 else none
 else none
 else none
 else none
 else none
 else none
 else
 k (Ex.ex (0 : Nat))
 (St.of
 [(0, AV.d (DV.sla false 1 p)), (1, AV.d (DV.sla false 1 h)),
 ((7 : Nat), AV.aref 90 2 0 A.length), (8, AV.d (DV.sl SK.tight 1 [[DV.int .i64 x]])),
 ((9 : Nat), AV.d (DV.sl SK.tight 1 [[DV.int .i64 y]])), (10, AV.d (DV.int .i64 m))]
 [(90, some (Ob.dat 40 2 A)), (97, none), (104, none), (50090, none)])) :=
  (show LB tab spY lp12 L (n+4) h120 c12l0 (S120 p h c (.aref 90 2 0 A.length) (.d (.sl .tight 1 [[.int .i64 x]])) (.d (.sl .tight 1 [[.int .i64 y]])) m i [(90, some (.dat 40 2 A)), (97, none), (104, none), (50090, none)]) k =
 (cond (decide ((↑i : Int) < (↑p.length : Int)))
 (lookK (p[(↑i : Int).toNat]?)
 fun e1 =>
 (cond (okRow [DV.int .i64 0] e1)
 (cond (decide ((cellA e1 0).toI < (0 : Int)))
 (k .ret (St.of [(6, (.d (.bool true)))] [(109, .none), (116, .none), (152, .none)]))
 (lookK (p[(↑i : Int).toNat]?)
 fun e5 =>
 (cond (okRow [DV.int .i64 0] e5)
 (cond (decide ((cellA e5 0).toI > (1048576 : Int)))
 (k .ret (St.of [(6, (.d (.bool true)))] [(109, .none), (116, .none), (152, .none)]))
 (lookK (h[(↑i : Int).toNat]?)
 fun e9 =>
 (cond (okRow [DV.int .i64 0] e9)
 (cond (decide ((cellA e9 0).toI < (0 : Int)))
 (k .ret (St.of [(6, (.d (.bool true)))] [(109, .none), (116, .none), (152, .none)]))
 (lookK (h[(↑i : Int).toNat]?)
 fun e13 =>
 (cond (okRow [DV.int .i64 0] e13)
 (cond (decide ((cellA e13 0).toI > (68719476736 : Int)))
 (k .ret (St.of [(6, (.d (.bool true)))] [(109, .none), (116, .none), (152, .none)]))
 (lookK (p[(↑i : Int).toNat]?)
 fun e17 =>
 (cond (okRow [DV.int .i64 0] e17)
 (lookK (h[(↑i : Int).toNat]?)
 fun e20 =>
 (cond (okRow [DV.int .i64 0] e20)
 (need (FSpec.D (worthV) [(.int .i64 ((cellA e17 0).toI)), (.int .i64 ((cellA e20 0).toI)), (.int .i64 c)])
 (cond (decide ((40 : TypeId) = (40 : Nat) ∧ (2 : Nat) = (2 : Nat) ∧ (2 : Nat) = (2 : Nat) ∧ (0 : Nat) = (0 : Nat) ∧ A.length = A.length ∧ (A ++ [[DV.int .i64 0, DV.int .i64 c]]).length * (16 : Nat) ≤ room ∧ (A ++ [[DV.int .i64 0, DV.int .i64 c]]).length ≤ room))
 (lookK (p[(↑i : Int).toNat]?)
 fun e25 =>
 (cond (okRow [DV.int .i64 0] e25)
 (lookK (h[(↑i : Int).toNat]?)
 fun e28 =>
 (cond (okRow [DV.int .i64 0] e28)
 (k .nrm (St.of [(0, (.d (.sla false 1 p))), (1, (.d (.sla false 1 h))), (2, (.d (.int .i64 c))), (7, (.aref (bif (alt 90 90).beq 97 then 50097 else alt 90 90) 2 0 ((A ++ [[DV.int .i64 0, DV.int .i64 c]]).length))), (8, (.aref 97 1 0 2)), (9, (.aref 104 1 0 2)), (10, (.d (.int .i64 (IntKind.i64.wrap (m + bif wOk (cellA e17 0).toI (cellA e20 0).toI c then wI (cellA e17 0).toI (cellA e20 0).toI c else (0 : Int)))))), (11, (.d (.int .i64 (IntKind.i64.wrap ((↑i : Int) + (1 : Int))))))] [(90, .none), (97, (.some (.dat 2 1 [[(.int .i64 ((cellA e25 0).toI))], [(.int .i64 x)]]))), (104, (.some (.dat 2 1 [[(.int .i64 ((cellA e28 0).toI))], [(.int .i64 y)]]))), (50090, (.some (.dat 40 2 (A ++ [[DV.int .i64 0, DV.int .i64 c]]))))]))
 none))
 none))
 none))
 none))
 none)))
 none)))
 none)))
 none)))
 none))
 (k (.ex 0) (St.of [(0, (.d (.sla false 1 p))), (1, (.d (.sla false 1 h))), (7, (.aref 90 2 0 (A.length))), (8, (.d (.sl (SK.tight) 1 [[(.int .i64 x)]]))), (9, (.d (.sl (SK.tight) 1 [[(.int .i64 y)]]))), (10, (.d (.int .i64 m)))] [(90, (.some (.dat 40 2 A))), (97, .none), (104, .none), (50090, .none)]))) from by kernel_rfl).trans (by first | rfl | (simp only [decide_true, decide_false, eq_self, and_true, true_and, and_self, cond_true, cond_false, Nat.le_refl, Int.le_refl, Option.getD_some, Option.getD_none, Int.toNat_natCast, List.take_length, List.drop_zero, Nat.zero_add, List.nil_append, List.all_nil, List.append_nil, Bool.true_and, Bool.and_true, rowsA_sla, rowsA_sl, rowsA_nil, minus_zero, nat_le_cast, nat_nonneg, Option.isSome_some, Option.isSome_none, Bool.false_eq_true, false_and, and_false, if_true, if_false, implies_true, Int.toNat_zero, Bool.not_false, Bool.not_true, bne_self_eq_false]; done) | (simp only [decide_true, decide_false, eq_self, and_true, true_and, and_self, cond_true, cond_false, Nat.le_refl, Int.le_refl, Option.getD_some, Option.getD_none, Int.toNat_natCast, List.take_length, List.drop_zero, Nat.zero_add, List.nil_append, List.all_nil, List.append_nil, Bool.true_and, Bool.and_true, rowsA_sla, rowsA_sl, rowsA_nil, minus_zero, nat_le_cast, nat_nonneg, Option.isSome_some, Option.isSome_none, Bool.false_eq_true, false_and, and_false, if_true, if_false, implies_true, Int.toNat_zero, Bool.not_false, Bool.not_true, bne_self_eq_false]; rfl))
theorem s120e (L n : Nat) (p h A P H : List (List DV)) (c : Int) (m : Int) (i : Nat) (k : Kont) : LB tab spY lp12 L (n+4) h120 c12l0 (S120 p h c (.aref 50090 2 0 A.length) (.aref 97 1 0 P.length) (.aref 104 1 0 H.length) m i [(90, none), (97, some (.dat 2 1 P)), (104, some (.dat 2 1 H)), (50090, some (.dat 40 2 A))]) k =
   (bif decide ((↑i : Int) < (↑p.length : Int)) then
 lookK p[i]? fun (e1 : List DV) =>
 bif okRow [DV.int .i64 0] e1 then
 bif decide ((cellA e1 0).toI < (0 : Int)) then
 k Ex.ret (St.of [(6, AV.d (DV.bool true))] [(109, none), (116, none), (152, none)])
 else
 lookK p[i]? fun (e5 : List DV) =>
 bif okRow [DV.int .i64 0] e5 then
 bif decide ((cellA e5 0).toI > (1048576 : Int)) then
 k Ex.ret (St.of [(6, AV.d (DV.bool true))] [(109, none), (116, none), (152, none)])
 else
 lookK h[i]? fun (e9 : List DV) =>
 bif okRow [DV.int .i64 0] e9 then
 bif decide ((cellA e9 0).toI < (0 : Int)) then
 k Ex.ret (St.of [(6, AV.d (DV.bool true))] [(109, none), (116, none), (152, none)])
 else
 lookK h[i]? fun (e13 : List DV) =>
 bif okRow [DV.int .i64 0] e13 then
 bif decide ((cellA e13 0).toI > (68719476736 : Int)) then
 k Ex.ret (St.of [(6, AV.d (DV.bool true))] [(109, none), (116, none), (152, none)])
 else
 lookK p[i]? fun (e17 : List DV) =>
 bif okRow [DV.int .i64 0] e17 then
 lookK h[i]? fun (e20 : List DV) =>
 bif okRow [DV.int .i64 0] e20 then
 need
 (worthV.D
 [DV.int .i64 (cellA e17 0).toI, DV.int .i64 (cellA e20 0).toI, DV.int .i64 c])
 (bif
 decide
 ((A ++ [[DV.int .i64 0, DV.int .i64 c]]).length * (16 : Nat) ≤ room ∧
 (A ++ [[DV.int .i64 0, DV.int .i64 c]]).length ≤ room) then
 lookK p[i]? fun (e25 : List DV) =>
 bif okRow [DV.int .i64 0] e25 then
 bif decide (P.length = (0 : Nat)) then
 lookK h[i]? fun (e30 : List DV) =>
 bif okRow [DV.int .i64 0] e30 then
 bif decide (H.length = (0 : Nat)) then
 k Ex.nrm
 (St.of
 [(0, AV.d (DV.sla false 1 p)), (1, AV.d (DV.sla false 1 h)),
 ((2 : Nat), AV.d (DV.int .i64 c)),
 ((7 : Nat),
 AV.aref
 (bif (alt (50090 : Nat) (90 : Nat)).beq (97 : Nat) then (50097 : Nat)
 else alt (50090 : Nat) (90 : Nat))
 (2 : Nat) (0 : Nat) (A ++ [[DV.int .i64 0, DV.int .i64 c]]).length),
 ((8 : Nat), AV.d (DV.sl SK.tight 1 [[DV.int .i64 (cellA e25 0).toI]])),
 ((9 : Nat), AV.d (DV.sl SK.tight 1 [[DV.int .i64 (cellA e30 0).toI]])),
 ((10 : Nat),
 AV.d
 (DV.int .i64
 (IntKind.i64.wrap
 (m +
 bif wOk (cellA e17 0).toI (cellA e20 0).toI c then
 wI (cellA e17 0).toI (cellA e20 0).toI c
 else (0 : Int))))),
 ((11 : Nat), AV.d (DV.int .i64 (IntKind.i64.wrap ((↑i : Int) + (1 : Int)))))]
 [((90 : Nat),
 some
 (Ob.dat 40 2 (A ++ [[DV.int .i64 0, DV.int .i64 c]]))),
 ((97 : Nat), none), (104, some (Ob.dat 2 1 H)), (50090, none)])
 else
 bif H.all fun (e : List DV) => e.length == (1 : Nat) && e.all DV.one then
 bif
 decide
 ((H.length + (1 : Nat)) * (8 : Nat) ≤ room ∧
 H.length + (1 : Nat) ≤ room ∧
 ([[DV.int .i64 (cellA e30 0).toI]].all fun (e : List DV) =>
 e.length == (1 : Nat) && e.all DV.one) =
 true) then
 k Ex.nrm
 (St.of
 [(0, AV.d (DV.sla false 1 p)), (1, AV.d (DV.sla false 1 h)),
 ((2 : Nat), AV.d (DV.int .i64 c)),
 ((7 : Nat),
 AV.aref
 (bif (alt (50090 : Nat) (90 : Nat)).beq (97 : Nat) then (50097 : Nat)
 else alt (50090 : Nat) (90 : Nat))
 (2 : Nat) (0 : Nat) (A ++ [[DV.int .i64 0, DV.int .i64 c]]).length),
 ((8 : Nat), AV.d (DV.sl SK.tight 1 [[DV.int .i64 (cellA e25 0).toI]])),
 ((9 : Nat), AV.aref 104 1 0 (H.length + (1 : Nat))),
 ((10 : Nat),
 AV.d
 (DV.int .i64
 (IntKind.i64.wrap
 (m +
 bif wOk (cellA e17 0).toI (cellA e20 0).toI c then
 wI (cellA e17 0).toI (cellA e20 0).toI c
 else (0 : Int))))),
 ((11 : Nat), AV.d (DV.int .i64 (IntKind.i64.wrap ((↑i : Int) + (1 : Int)))))]
 [((90 : Nat),
 some
 (Ob.dat 40 2
 (A ++ [[DV.int .i64 0, DV.int .i64 c]]))),
 ((97 : Nat), none),
 ((104 : Nat),
 some (Ob.dat 2 1 ([DV.int .i64 (cellA e30 0).toI] :: H))),
 ((50090 : Nat), none)])
 else none
 else none
 else none
 else
 bif P.all fun (e : List DV) => e.length == (1 : Nat) && e.all DV.one then
 bif
 decide
 ((P.length + (1 : Nat)) * (8 : Nat) ≤ room ∧
 P.length + (1 : Nat) ≤ room ∧
 ([[DV.int .i64 (cellA e25 0).toI]].all fun (e : List DV) =>
 e.length == (1 : Nat) && e.all DV.one) =
 true) then
 lookK h[i]? fun (e32 : List DV) =>
 bif okRow [DV.int .i64 0] e32 then
 bif decide (H.length = (0 : Nat)) then
 k Ex.nrm
 (St.of
 [(0, AV.d (DV.sla false 1 p)), (1, AV.d (DV.sla false 1 h)),
 ((2 : Nat), AV.d (DV.int .i64 c)),
 ((7 : Nat),
 AV.aref
 (bif (alt (50090 : Nat) (90 : Nat)).beq (97 : Nat) then (50097 : Nat)
 else alt (50090 : Nat) (90 : Nat))
 (2 : Nat) (0 : Nat) (A ++ [[DV.int .i64 0, DV.int .i64 c]]).length),
 ((8 : Nat), AV.aref 97 1 0 (P.length + (1 : Nat))),
 ((9 : Nat), AV.d (DV.sl SK.tight 1 [[DV.int .i64 (cellA e32 0).toI]])),
 ((10 : Nat),
 AV.d
 (DV.int .i64
 (IntKind.i64.wrap
 (m +
 bif wOk (cellA e17 0).toI (cellA e20 0).toI c then
 wI (cellA e17 0).toI (cellA e20 0).toI c
 else (0 : Int))))),
 ((11 : Nat), AV.d (DV.int .i64 (IntKind.i64.wrap ((↑i : Int) + (1 : Int)))))]
 [((90 : Nat),
 some
 (Ob.dat 40 2
 (A ++ [[DV.int .i64 0, DV.int .i64 c]]))),
 ((97 : Nat),
 some (Ob.dat 2 1 ([DV.int .i64 (cellA e25 0).toI] :: P))),
 ((104 : Nat), some (Ob.dat 2 1 H)), (50090, none)])
 else
 bif H.all fun (e : List DV) => e.length == (1 : Nat) && e.all DV.one then
 bif
 decide
 ((H.length + (1 : Nat)) * (8 : Nat) ≤ room ∧
 H.length + (1 : Nat) ≤ room ∧
 ([[DV.int .i64 (cellA e32 0).toI]].all fun (e : List DV) =>
 e.length == (1 : Nat) && e.all DV.one) =
 true) then
 k Ex.nrm
 (St.of
 [(0, AV.d (DV.sla false 1 p)), (1, AV.d (DV.sla false 1 h)),
 ((2 : Nat), AV.d (DV.int .i64 c)),
 ((7 : Nat),
 AV.aref
 (bif (alt (50090 : Nat) (90 : Nat)).beq (97 : Nat) then (50097 : Nat)
 else alt (50090 : Nat) (90 : Nat))
 (2 : Nat) (0 : Nat) (A ++ [[DV.int .i64 0, DV.int .i64 c]]).length),
 ((8 : Nat), AV.aref 97 1 0 (P.length + (1 : Nat))),
 ((9 : Nat), AV.aref 104 1 0 (H.length + (1 : Nat))),
 ((10 : Nat),
 AV.d
 (DV.int .i64
 (IntKind.i64.wrap
 (m +
 bif wOk (cellA e17 0).toI (cellA e20 0).toI c then
 wI (cellA e17 0).toI (cellA e20 0).toI c
 else (0 : Int))))),
 ((11 : Nat), AV.d (DV.int .i64 (IntKind.i64.wrap ((↑i : Int) + (1 : Int)))))]
 [((90 : Nat),
 some
 (Ob.dat 40 2
 (A ++ [[DV.int .i64 0, DV.int .i64 c]]))),
 ((97 : Nat),
 some (Ob.dat 2 1 ([DV.int .i64 (cellA e25 0).toI] :: P))),
 ((104 : Nat),
 some (Ob.dat 2 1 ([DV.int .i64 (cellA e32 0).toI] :: H))),
 ((50090 : Nat), none)])
 else none
 else none
 else none
 else none
 else none
 else none
 else none)
 else none
 else none
 else none
 else none
 else none
 else none
 else
 k (Ex.ex (0 : Nat))
 (St.of
 [(0, AV.d (DV.sla false 1 p)), (1, AV.d (DV.sla false 1 h)),
 ((7 : Nat), AV.aref 50090 2 0 A.length), (8, AV.aref 97 1 0 P.length),
 ((9 : Nat), AV.aref 104 1 0 H.length), (10, AV.d (DV.int .i64 m))]
 [(90, none), (97, some (Ob.dat 2 1 P)), (104, some (Ob.dat 2 1 H)),
 ((50090 : Nat), some (Ob.dat 40 2 A))])) :=
  (show LB tab spY lp12 L (n+4) h120 c12l0 (S120 p h c (.aref 50090 2 0 A.length) (.aref 97 1 0 P.length) (.aref 104 1 0 H.length) m i [(90, none), (97, some (.dat 2 1 P)), (104, some (.dat 2 1 H)), (50090, some (.dat 40 2 A))]) k =
 (cond (decide ((↑i : Int) < (↑p.length : Int)))
 (lookK (p[(↑i : Int).toNat]?)
 fun e1 =>
 (cond (okRow [DV.int .i64 0] e1)
 (cond (decide ((cellA e1 0).toI < (0 : Int)))
 (k .ret (St.of [(6, (.d (.bool true)))] [(109, .none), (116, .none), (152, .none)]))
 (lookK (p[(↑i : Int).toNat]?)
 fun e5 =>
 (cond (okRow [DV.int .i64 0] e5)
 (cond (decide ((cellA e5 0).toI > (1048576 : Int)))
 (k .ret (St.of [(6, (.d (.bool true)))] [(109, .none), (116, .none), (152, .none)]))
 (lookK (h[(↑i : Int).toNat]?)
 fun e9 =>
 (cond (okRow [DV.int .i64 0] e9)
 (cond (decide ((cellA e9 0).toI < (0 : Int)))
 (k .ret (St.of [(6, (.d (.bool true)))] [(109, .none), (116, .none), (152, .none)]))
 (lookK (h[(↑i : Int).toNat]?)
 fun e13 =>
 (cond (okRow [DV.int .i64 0] e13)
 (cond (decide ((cellA e13 0).toI > (68719476736 : Int)))
 (k .ret (St.of [(6, (.d (.bool true)))] [(109, .none), (116, .none), (152, .none)]))
 (lookK (p[(↑i : Int).toNat]?)
 fun e17 =>
 (cond (okRow [DV.int .i64 0] e17)
 (lookK (h[(↑i : Int).toNat]?)
 fun e20 =>
 (cond (okRow [DV.int .i64 0] e20)
 (need (FSpec.D (worthV) [(.int .i64 ((cellA e17 0).toI)), (.int .i64 ((cellA e20 0).toI)), (.int .i64 c)])
 (cond (decide ((40 : TypeId) = (40 : Nat) ∧ (2 : Nat) = (2 : Nat) ∧ (2 : Nat) = (2 : Nat) ∧ (0 : Nat) = (0 : Nat) ∧ A.length = A.length ∧ (A ++ [[DV.int .i64 0, DV.int .i64 c]]).length * (16 : Nat) ≤ room ∧ (A ++ [[DV.int .i64 0, DV.int .i64 c]]).length ≤ room))
 (lookK (p[(↑i : Int).toNat]?)
 fun e25 =>
 (cond (okRow [DV.int .i64 0] e25)
 (cond (decide ((0 : Nat) + P.length ≤ P.length))
 (cond (decide ((List.take P.length P).length = (0 : Nat)))
 (lookK (h[(↑i : Int).toNat]?)
 fun e30 =>
 (cond (okRow [DV.int .i64 0] e30)
 (cond (decide ((0 : Nat) + H.length ≤ H.length))
 (cond (decide ((List.take H.length H).length = (0 : Nat)))
 (k .nrm (St.of [(0, (.d (.sla false 1 p))), (1, (.d (.sla false 1 h))), (2, (.d (.int .i64 c))), (7, (.aref (bif (alt 50090 90).beq 97 then 50097 else alt 50090 90) 2 0 ((A ++ [[DV.int .i64 0, DV.int .i64 c]]).length))), (8, (.d (.sl (SK.tight) 1 [[(.int .i64 ((cellA e25 0).toI))]]))), (9, (.d (.sl (SK.tight) 1 [[(.int .i64 ((cellA e30 0).toI))]]))), (10, (.d (.int .i64 (IntKind.i64.wrap (m + bif wOk (cellA e17 0).toI (cellA e20 0).toI c then wI (cellA e17 0).toI (cellA e20 0).toI c else (0 : Int)))))), (11, (.d (.int .i64 (IntKind.i64.wrap ((↑i : Int) + (1 : Int))))))] [(90, (.some (.dat 40 2 (A ++ [[DV.int .i64 0, DV.int .i64 c]])))), (97, .none), (104, (.some (.dat 2 1 H))), (50090, .none)]))
 (cond ((List.take H.length H).all fun (e : List DV) => e.length == (1 : Nat) && e.all DV.one)
 (cond (decide ((1 : Nat) = (1 : Nat) ∧ ((List.take H.length H).length + (1 : Nat)) * (8 : Nat) ≤ room ∧ (List.take H.length H).length + (1 : Nat) ≤ room ∧ ([[DV.int .i64 (cellA e30 0).toI]].all fun (e : List DV) => e.length == (1 : Nat) && e.all DV.one) = true))
 (k .nrm (St.of [(0, (.d (.sla false 1 p))), (1, (.d (.sla false 1 h))), (2, (.d (.int .i64 c))), (7, (.aref (bif (alt 50090 90).beq 97 then 50097 else alt 50090 90) 2 0 ((A ++ [[DV.int .i64 0, DV.int .i64 c]]).length))), (8, (.d (.sl (SK.tight) 1 [[(.int .i64 ((cellA e25 0).toI))]]))), (9, (.aref 104 1 0 ((List.take H.length H).length + 1))), (10, (.d (.int .i64 (IntKind.i64.wrap (m + bif wOk (cellA e17 0).toI (cellA e20 0).toI c then wI (cellA e17 0).toI (cellA e20 0).toI c else (0 : Int)))))), (11, (.d (.int .i64 (IntKind.i64.wrap ((↑i : Int) + (1 : Int))))))] [(90, (.some (.dat 40 2 (A ++ [[DV.int .i64 0, DV.int .i64 c]])))), (97, .none), (104, (.some (.dat 2 1 ([DV.int .i64 (cellA e30 0).toI] :: List.take H.length H)))), (50090, .none)]))
 none)
 none))
 none)
 none))
 (cond ((List.take P.length P).all fun (e : List DV) => e.length == (1 : Nat) && e.all DV.one)
 (cond (decide ((1 : Nat) = (1 : Nat) ∧ ((List.take P.length P).length + (1 : Nat)) * (8 : Nat) ≤ room ∧ (List.take P.length P).length + (1 : Nat) ≤ room ∧ ([[DV.int .i64 (cellA e25 0).toI]].all fun (e : List DV) => e.length == (1 : Nat) && e.all DV.one) = true))
 (lookK (h[(↑i : Int).toNat]?)
 fun e32 =>
 (cond (okRow [DV.int .i64 0] e32)
 (cond (decide ((0 : Nat) + H.length ≤ H.length))
 (cond (decide ((List.take H.length H).length = (0 : Nat)))
 (k .nrm (St.of [(0, (.d (.sla false 1 p))), (1, (.d (.sla false 1 h))), (2, (.d (.int .i64 c))), (7, (.aref (bif (alt 50090 90).beq 97 then 50097 else alt 50090 90) 2 0 ((A ++ [[DV.int .i64 0, DV.int .i64 c]]).length))), (8, (.aref 97 1 0 ((List.take P.length P).length + 1))), (9, (.d (.sl (SK.tight) 1 [[(.int .i64 ((cellA e32 0).toI))]]))), (10, (.d (.int .i64 (IntKind.i64.wrap (m + bif wOk (cellA e17 0).toI (cellA e20 0).toI c then wI (cellA e17 0).toI (cellA e20 0).toI c else (0 : Int)))))), (11, (.d (.int .i64 (IntKind.i64.wrap ((↑i : Int) + (1 : Int))))))] [(90, (.some (.dat 40 2 (A ++ [[DV.int .i64 0, DV.int .i64 c]])))), (97, (.some (.dat 2 1 ([DV.int .i64 (cellA e25 0).toI] :: List.take P.length P)))), (104, (.some (.dat 2 1 H))), (50090, .none)]))
 (cond ((List.take H.length H).all fun (e : List DV) => e.length == (1 : Nat) && e.all DV.one)
 (cond (decide ((1 : Nat) = (1 : Nat) ∧ ((List.take H.length H).length + (1 : Nat)) * (8 : Nat) ≤ room ∧ (List.take H.length H).length + (1 : Nat) ≤ room ∧ ([[DV.int .i64 (cellA e32 0).toI]].all fun (e : List DV) => e.length == (1 : Nat) && e.all DV.one) = true))
 (k .nrm (St.of [(0, (.d (.sla false 1 p))), (1, (.d (.sla false 1 h))), (2, (.d (.int .i64 c))), (7, (.aref (bif (alt 50090 90).beq 97 then 50097 else alt 50090 90) 2 0 ((A ++ [[DV.int .i64 0, DV.int .i64 c]]).length))), (8, (.aref 97 1 0 ((List.take P.length P).length + 1))), (9, (.aref 104 1 0 ((List.take H.length H).length + 1))), (10, (.d (.int .i64 (IntKind.i64.wrap (m + bif wOk (cellA e17 0).toI (cellA e20 0).toI c then wI (cellA e17 0).toI (cellA e20 0).toI c else (0 : Int)))))), (11, (.d (.int .i64 (IntKind.i64.wrap ((↑i : Int) + (1 : Int))))))] [(90, (.some (.dat 40 2 (A ++ [[DV.int .i64 0, DV.int .i64 c]])))), (97, (.some (.dat 2 1 ([DV.int .i64 (cellA e25 0).toI] :: List.take P.length P)))), (104, (.some (.dat 2 1 ([DV.int .i64 (cellA e32 0).toI] :: List.take H.length H)))), (50090, .none)]))
 none)
 none))
 none)
 none))
 none)
 none))
 none)
 none))
 none))
 none))
 none)))
 none)))
 none)))
 none)))
 none))
 (k (.ex 0) (St.of [(0, (.d (.sla false 1 p))), (1, (.d (.sla false 1 h))), (7, (.aref 50090 2 0 (A.length))), (8, (.aref 97 1 0 (P.length))), (9, (.aref 104 1 0 (H.length))), (10, (.d (.int .i64 m)))] [(90, .none), (97, (.some (.dat 2 1 P))), (104, (.some (.dat 2 1 H))), (50090, (.some (.dat 40 2 A)))]))) from by kernel_rfl).trans (by first | rfl | (simp only [decide_true, decide_false, eq_self, and_true, true_and, and_self, cond_true, cond_false, Nat.le_refl, Int.le_refl, Option.getD_some, Option.getD_none, Int.toNat_natCast, List.take_length, List.drop_zero, Nat.zero_add, List.nil_append, List.all_nil, List.append_nil, Bool.true_and, Bool.and_true, rowsA_sla, rowsA_sl, rowsA_nil, minus_zero, nat_le_cast, nat_nonneg, Option.isSome_some, Option.isSome_none, Bool.false_eq_true, false_and, and_false, if_true, if_false, implies_true, Int.toNat_zero, Bool.not_false, Bool.not_true, bne_self_eq_false]; done) | (simp only [decide_true, decide_false, eq_self, and_true, true_and, and_self, cond_true, cond_false, Nat.le_refl, Int.le_refl, Option.getD_some, Option.getD_none, Int.toNat_natCast, List.take_length, List.drop_zero, Nat.zero_add, List.nil_append, List.all_nil, List.append_nil, Bool.true_and, Bool.and_true, rowsA_sla, rowsA_sl, rowsA_nil, minus_zero, nat_le_cast, nat_nonneg, Option.isSome_some, Option.isSome_none, Bool.false_eq_true, false_and, and_false, if_true, if_false, implies_true, Int.toNat_zero, Bool.not_false, Bool.not_true, bne_self_eq_false]; rfl))
theorem s120d (L n : Nat) (p h A P H : List (List DV)) (c : Int) (m : Int) (i : Nat) (k : Kont) : LB tab spY lp12 L (n+4) h120 c12l0 (S120 p h c (.aref 90 2 0 A.length) (.aref 97 1 0 P.length) (.aref 104 1 0 H.length) m i [(90, some (.dat 40 2 A)), (97, some (.dat 2 1 P)), (104, some (.dat 2 1 H)), (50090, none)]) k =
   (bif decide ((↑i : Int) < (↑p.length : Int)) then
 lookK p[i]? fun (e1 : List DV) =>
 bif okRow [DV.int .i64 0] e1 then
 bif decide ((cellA e1 0).toI < (0 : Int)) then
 k Ex.ret (St.of [(6, AV.d (DV.bool true))] [(109, none), (116, none), (152, none)])
 else
 lookK p[i]? fun (e5 : List DV) =>
 bif okRow [DV.int .i64 0] e5 then
 bif decide ((cellA e5 0).toI > (1048576 : Int)) then
 k Ex.ret (St.of [(6, AV.d (DV.bool true))] [(109, none), (116, none), (152, none)])
 else
 lookK h[i]? fun (e9 : List DV) =>
 bif okRow [DV.int .i64 0] e9 then
 bif decide ((cellA e9 0).toI < (0 : Int)) then
 k Ex.ret (St.of [(6, AV.d (DV.bool true))] [(109, none), (116, none), (152, none)])
 else
 lookK h[i]? fun (e13 : List DV) =>
 bif okRow [DV.int .i64 0] e13 then
 bif decide ((cellA e13 0).toI > (68719476736 : Int)) then
 k Ex.ret (St.of [(6, AV.d (DV.bool true))] [(109, none), (116, none), (152, none)])
 else
 lookK p[i]? fun (e17 : List DV) =>
 bif okRow [DV.int .i64 0] e17 then
 lookK h[i]? fun (e20 : List DV) =>
 bif okRow [DV.int .i64 0] e20 then
 need
 (worthV.D
 [DV.int .i64 (cellA e17 0).toI, DV.int .i64 (cellA e20 0).toI, DV.int .i64 c])
 (bif
 decide
 ((A ++ [[DV.int .i64 0, DV.int .i64 c]]).length * (16 : Nat) ≤ room ∧
 (A ++ [[DV.int .i64 0, DV.int .i64 c]]).length ≤ room) then
 lookK p[i]? fun (e25 : List DV) =>
 bif okRow [DV.int .i64 0] e25 then
 bif decide (P.length = (0 : Nat)) then
 lookK h[i]? fun (e30 : List DV) =>
 bif okRow [DV.int .i64 0] e30 then
 bif decide (H.length = (0 : Nat)) then
 k Ex.nrm
 (St.of
 [(0, AV.d (DV.sla false 1 p)), (1, AV.d (DV.sla false 1 h)),
 ((2 : Nat), AV.d (DV.int .i64 c)),
 ((7 : Nat),
 AV.aref
 (bif (alt (90 : Nat) (90 : Nat)).beq (97 : Nat) then (50097 : Nat) else alt (90 : Nat) (90 : Nat))
 (2 : Nat) (0 : Nat) (A ++ [[DV.int .i64 0, DV.int .i64 c]]).length),
 ((8 : Nat), AV.d (DV.sl SK.tight 1 [[DV.int .i64 (cellA e25 0).toI]])),
 ((9 : Nat), AV.d (DV.sl SK.tight 1 [[DV.int .i64 (cellA e30 0).toI]])),
 ((10 : Nat),
 AV.d
 (DV.int .i64
 (IntKind.i64.wrap
 (m +
 bif wOk (cellA e17 0).toI (cellA e20 0).toI c then
 wI (cellA e17 0).toI (cellA e20 0).toI c
 else (0 : Int))))),
 ((11 : Nat), AV.d (DV.int .i64 (IntKind.i64.wrap ((↑i : Int) + (1 : Int)))))]
 [(90, none), (97, none), (104, some (Ob.dat 2 1 H)),
 ((50090 : Nat),
 some
 (Ob.dat 40 2 (A ++ [[DV.int .i64 0, DV.int .i64 c]])))])
 else
 bif H.all fun (e : List DV) => e.length == (1 : Nat) && e.all DV.one then
 bif
 decide
 ((H.length + (1 : Nat)) * (8 : Nat) ≤ room ∧
 H.length + (1 : Nat) ≤ room ∧
 ([[DV.int .i64 (cellA e30 0).toI]].all fun (e : List DV) =>
 e.length == (1 : Nat) && e.all DV.one) =
 true) then
 k Ex.nrm
 (St.of
 [(0, AV.d (DV.sla false 1 p)), (1, AV.d (DV.sla false 1 h)),
 ((2 : Nat), AV.d (DV.int .i64 c)),
 ((7 : Nat),
 AV.aref
 (bif (alt (90 : Nat) (90 : Nat)).beq (97 : Nat) then (50097 : Nat)
 else alt (90 : Nat) (90 : Nat))
 (2 : Nat) (0 : Nat) (A ++ [[DV.int .i64 0, DV.int .i64 c]]).length),
 ((8 : Nat), AV.d (DV.sl SK.tight 1 [[DV.int .i64 (cellA e25 0).toI]])),
 ((9 : Nat), AV.aref 104 1 0 (H.length + (1 : Nat))),
 ((10 : Nat),
 AV.d
 (DV.int .i64
 (IntKind.i64.wrap
 (m +
 bif wOk (cellA e17 0).toI (cellA e20 0).toI c then
 wI (cellA e17 0).toI (cellA e20 0).toI c
 else (0 : Int))))),
 ((11 : Nat), AV.d (DV.int .i64 (IntKind.i64.wrap ((↑i : Int) + (1 : Int)))))]
 [(90, none), (97, none),
 ((104 : Nat),
 some (Ob.dat 2 1 ([DV.int .i64 (cellA e30 0).toI] :: H))),
 ((50090 : Nat),
 some
 (Ob.dat 40 2
 (A ++ [[DV.int .i64 0, DV.int .i64 c]])))])
 else none
 else none
 else none
 else
 bif P.all fun (e : List DV) => e.length == (1 : Nat) && e.all DV.one then
 bif
 decide
 ((P.length + (1 : Nat)) * (8 : Nat) ≤ room ∧
 P.length + (1 : Nat) ≤ room ∧
 ([[DV.int .i64 (cellA e25 0).toI]].all fun (e : List DV) =>
 e.length == (1 : Nat) && e.all DV.one) =
 true) then
 lookK h[i]? fun (e32 : List DV) =>
 bif okRow [DV.int .i64 0] e32 then
 bif decide (H.length = (0 : Nat)) then
 k Ex.nrm
 (St.of
 [(0, AV.d (DV.sla false 1 p)), (1, AV.d (DV.sla false 1 h)),
 ((2 : Nat), AV.d (DV.int .i64 c)),
 ((7 : Nat),
 AV.aref
 (bif (alt (90 : Nat) (90 : Nat)).beq (97 : Nat) then (50097 : Nat)
 else alt (90 : Nat) (90 : Nat))
 (2 : Nat) (0 : Nat) (A ++ [[DV.int .i64 0, DV.int .i64 c]]).length),
 ((8 : Nat), AV.aref 97 1 0 (P.length + (1 : Nat))),
 ((9 : Nat), AV.d (DV.sl SK.tight 1 [[DV.int .i64 (cellA e32 0).toI]])),
 ((10 : Nat),
 AV.d
 (DV.int .i64
 (IntKind.i64.wrap
 (m +
 bif wOk (cellA e17 0).toI (cellA e20 0).toI c then
 wI (cellA e17 0).toI (cellA e20 0).toI c
 else (0 : Int))))),
 ((11 : Nat), AV.d (DV.int .i64 (IntKind.i64.wrap ((↑i : Int) + (1 : Int)))))]
 [(90, none),
 ((97 : Nat),
 some (Ob.dat 2 1 ([DV.int .i64 (cellA e25 0).toI] :: P))),
 ((104 : Nat), some (Ob.dat 2 1 H)),
 ((50090 : Nat),
 some
 (Ob.dat 40 2
 (A ++ [[DV.int .i64 0, DV.int .i64 c]])))])
 else
 bif H.all fun (e : List DV) => e.length == (1 : Nat) && e.all DV.one then
 bif
 decide
 ((H.length + (1 : Nat)) * (8 : Nat) ≤ room ∧
 H.length + (1 : Nat) ≤ room ∧
 ([[DV.int .i64 (cellA e32 0).toI]].all fun (e : List DV) =>
 e.length == (1 : Nat) && e.all DV.one) =
 true) then
 k Ex.nrm
 (St.of
 [(0, AV.d (DV.sla false 1 p)), (1, AV.d (DV.sla false 1 h)),
 ((2 : Nat), AV.d (DV.int .i64 c)),
 ((7 : Nat),
 AV.aref
 (bif (alt (90 : Nat) (90 : Nat)).beq (97 : Nat) then (50097 : Nat)
 else alt (90 : Nat) (90 : Nat))
 (2 : Nat) (0 : Nat) (A ++ [[DV.int .i64 0, DV.int .i64 c]]).length),
 ((8 : Nat), AV.aref 97 1 0 (P.length + (1 : Nat))),
 ((9 : Nat), AV.aref 104 1 0 (H.length + (1 : Nat))),
 ((10 : Nat),
 AV.d
 (DV.int .i64
 (IntKind.i64.wrap
 (m +
 bif wOk (cellA e17 0).toI (cellA e20 0).toI c then
 wI (cellA e17 0).toI (cellA e20 0).toI c
 else (0 : Int))))),
 ((11 : Nat), AV.d (DV.int .i64 (IntKind.i64.wrap ((↑i : Int) + (1 : Int)))))]
 [(90, none),
 ((97 : Nat),
 some (Ob.dat 2 1 ([DV.int .i64 (cellA e25 0).toI] :: P))),
 ((104 : Nat),
 some (Ob.dat 2 1 ([DV.int .i64 (cellA e32 0).toI] :: H))),
 ((50090 : Nat),
 some
 (Ob.dat 40 2
 (A ++ [[DV.int .i64 0, DV.int .i64 c]])))])
 else none
 else none
 else none
 else none
 else none
 else none
 else none)
 else none
 else none
 else none
 else none
 else none
 else none
 else
 k (Ex.ex (0 : Nat))
 (St.of
 [(0, AV.d (DV.sla false 1 p)), (1, AV.d (DV.sla false 1 h)),
 ((7 : Nat), AV.aref 90 2 0 A.length), (8, AV.aref 97 1 0 P.length),
 ((9 : Nat), AV.aref 104 1 0 H.length), (10, AV.d (DV.int .i64 m))]
 [(90, some (Ob.dat 40 2 A)), (97, some (Ob.dat 2 1 P)),
 ((104 : Nat), some (Ob.dat 2 1 H)), (50090, none)])) :=
  (show LB tab spY lp12 L (n+4) h120 c12l0 (S120 p h c (.aref 90 2 0 A.length) (.aref 97 1 0 P.length) (.aref 104 1 0 H.length) m i [(90, some (.dat 40 2 A)), (97, some (.dat 2 1 P)), (104, some (.dat 2 1 H)), (50090, none)]) k =
 (cond (decide ((↑i : Int) < (↑p.length : Int)))
 (lookK (p[(↑i : Int).toNat]?)
 fun e1 =>
 (cond (okRow [DV.int .i64 0] e1)
 (cond (decide ((cellA e1 0).toI < (0 : Int)))
 (k .ret (St.of [(6, (.d (.bool true)))] [(109, .none), (116, .none), (152, .none)]))
 (lookK (p[(↑i : Int).toNat]?)
 fun e5 =>
 (cond (okRow [DV.int .i64 0] e5)
 (cond (decide ((cellA e5 0).toI > (1048576 : Int)))
 (k .ret (St.of [(6, (.d (.bool true)))] [(109, .none), (116, .none), (152, .none)]))
 (lookK (h[(↑i : Int).toNat]?)
 fun e9 =>
 (cond (okRow [DV.int .i64 0] e9)
 (cond (decide ((cellA e9 0).toI < (0 : Int)))
 (k .ret (St.of [(6, (.d (.bool true)))] [(109, .none), (116, .none), (152, .none)]))
 (lookK (h[(↑i : Int).toNat]?)
 fun e13 =>
 (cond (okRow [DV.int .i64 0] e13)
 (cond (decide ((cellA e13 0).toI > (68719476736 : Int)))
 (k .ret (St.of [(6, (.d (.bool true)))] [(109, .none), (116, .none), (152, .none)]))
 (lookK (p[(↑i : Int).toNat]?)
 fun e17 =>
 (cond (okRow [DV.int .i64 0] e17)
 (lookK (h[(↑i : Int).toNat]?)
 fun e20 =>
 (cond (okRow [DV.int .i64 0] e20)
 (need (FSpec.D (worthV) [(.int .i64 ((cellA e17 0).toI)), (.int .i64 ((cellA e20 0).toI)), (.int .i64 c)])
 (cond (decide ((40 : TypeId) = (40 : Nat) ∧ (2 : Nat) = (2 : Nat) ∧ (2 : Nat) = (2 : Nat) ∧ (0 : Nat) = (0 : Nat) ∧ A.length = A.length ∧ (A ++ [[DV.int .i64 0, DV.int .i64 c]]).length * (16 : Nat) ≤ room ∧ (A ++ [[DV.int .i64 0, DV.int .i64 c]]).length ≤ room))
 (lookK (p[(↑i : Int).toNat]?)
 fun e25 =>
 (cond (okRow [DV.int .i64 0] e25)
 (cond (decide ((0 : Nat) + P.length ≤ P.length))
 (cond (decide ((List.take P.length P).length = (0 : Nat)))
 (lookK (h[(↑i : Int).toNat]?)
 fun e30 =>
 (cond (okRow [DV.int .i64 0] e30)
 (cond (decide ((0 : Nat) + H.length ≤ H.length))
 (cond (decide ((List.take H.length H).length = (0 : Nat)))
 (k .nrm (St.of [(0, (.d (.sla false 1 p))), (1, (.d (.sla false 1 h))), (2, (.d (.int .i64 c))), (7, (.aref (bif (alt 90 90).beq 97 then 50097 else alt 90 90) 2 0 ((A ++ [[DV.int .i64 0, DV.int .i64 c]]).length))), (8, (.d (.sl (SK.tight) 1 [[(.int .i64 ((cellA e25 0).toI))]]))), (9, (.d (.sl (SK.tight) 1 [[(.int .i64 ((cellA e30 0).toI))]]))), (10, (.d (.int .i64 (IntKind.i64.wrap (m + bif wOk (cellA e17 0).toI (cellA e20 0).toI c then wI (cellA e17 0).toI (cellA e20 0).toI c else (0 : Int)))))), (11, (.d (.int .i64 (IntKind.i64.wrap ((↑i : Int) + (1 : Int))))))] [(90, .none), (97, .none), (104, (.some (.dat 2 1 H))), (50090, (.some (.dat 40 2 (A ++ [[DV.int .i64 0, DV.int .i64 c]]))))]))
 (cond ((List.take H.length H).all fun (e : List DV) => e.length == (1 : Nat) && e.all DV.one)
 (cond (decide ((1 : Nat) = (1 : Nat) ∧ ((List.take H.length H).length + (1 : Nat)) * (8 : Nat) ≤ room ∧ (List.take H.length H).length + (1 : Nat) ≤ room ∧ ([[DV.int .i64 (cellA e30 0).toI]].all fun (e : List DV) => e.length == (1 : Nat) && e.all DV.one) = true))
 (k .nrm (St.of [(0, (.d (.sla false 1 p))), (1, (.d (.sla false 1 h))), (2, (.d (.int .i64 c))), (7, (.aref (bif (alt 90 90).beq 97 then 50097 else alt 90 90) 2 0 ((A ++ [[DV.int .i64 0, DV.int .i64 c]]).length))), (8, (.d (.sl (SK.tight) 1 [[(.int .i64 ((cellA e25 0).toI))]]))), (9, (.aref 104 1 0 ((List.take H.length H).length + 1))), (10, (.d (.int .i64 (IntKind.i64.wrap (m + bif wOk (cellA e17 0).toI (cellA e20 0).toI c then wI (cellA e17 0).toI (cellA e20 0).toI c else (0 : Int)))))), (11, (.d (.int .i64 (IntKind.i64.wrap ((↑i : Int) + (1 : Int))))))] [(90, .none), (97, .none), (104, (.some (.dat 2 1 ([DV.int .i64 (cellA e30 0).toI] :: List.take H.length H)))), (50090, (.some (.dat 40 2 (A ++ [[DV.int .i64 0, DV.int .i64 c]]))))]))
 none)
 none))
 none)
 none))
 (cond ((List.take P.length P).all fun (e : List DV) => e.length == (1 : Nat) && e.all DV.one)
 (cond (decide ((1 : Nat) = (1 : Nat) ∧ ((List.take P.length P).length + (1 : Nat)) * (8 : Nat) ≤ room ∧ (List.take P.length P).length + (1 : Nat) ≤ room ∧ ([[DV.int .i64 (cellA e25 0).toI]].all fun (e : List DV) => e.length == (1 : Nat) && e.all DV.one) = true))
 (lookK (h[(↑i : Int).toNat]?)
 fun e32 =>
 (cond (okRow [DV.int .i64 0] e32)
 (cond (decide ((0 : Nat) + H.length ≤ H.length))
 (cond (decide ((List.take H.length H).length = (0 : Nat)))
 (k .nrm (St.of [(0, (.d (.sla false 1 p))), (1, (.d (.sla false 1 h))), (2, (.d (.int .i64 c))), (7, (.aref (bif (alt 90 90).beq 97 then 50097 else alt 90 90) 2 0 ((A ++ [[DV.int .i64 0, DV.int .i64 c]]).length))), (8, (.aref 97 1 0 ((List.take P.length P).length + 1))), (9, (.d (.sl (SK.tight) 1 [[(.int .i64 ((cellA e32 0).toI))]]))), (10, (.d (.int .i64 (IntKind.i64.wrap (m + bif wOk (cellA e17 0).toI (cellA e20 0).toI c then wI (cellA e17 0).toI (cellA e20 0).toI c else (0 : Int)))))), (11, (.d (.int .i64 (IntKind.i64.wrap ((↑i : Int) + (1 : Int))))))] [(90, .none), (97, (.some (.dat 2 1 ([DV.int .i64 (cellA e25 0).toI] :: List.take P.length P)))), (104, (.some (.dat 2 1 H))), (50090, (.some (.dat 40 2 (A ++ [[DV.int .i64 0, DV.int .i64 c]]))))]))
 (cond ((List.take H.length H).all fun (e : List DV) => e.length == (1 : Nat) && e.all DV.one)
 (cond (decide ((1 : Nat) = (1 : Nat) ∧ ((List.take H.length H).length + (1 : Nat)) * (8 : Nat) ≤ room ∧ (List.take H.length H).length + (1 : Nat) ≤ room ∧ ([[DV.int .i64 (cellA e32 0).toI]].all fun (e : List DV) => e.length == (1 : Nat) && e.all DV.one) = true))
 (k .nrm (St.of [(0, (.d (.sla false 1 p))), (1, (.d (.sla false 1 h))), (2, (.d (.int .i64 c))), (7, (.aref (bif (alt 90 90).beq 97 then 50097 else alt 90 90) 2 0 ((A ++ [[DV.int .i64 0, DV.int .i64 c]]).length))), (8, (.aref 97 1 0 ((List.take P.length P).length + 1))), (9, (.aref 104 1 0 ((List.take H.length H).length + 1))), (10, (.d (.int .i64 (IntKind.i64.wrap (m + bif wOk (cellA e17 0).toI (cellA e20 0).toI c then wI (cellA e17 0).toI (cellA e20 0).toI c else (0 : Int)))))), (11, (.d (.int .i64 (IntKind.i64.wrap ((↑i : Int) + (1 : Int))))))] [(90, .none), (97, (.some (.dat 2 1 ([DV.int .i64 (cellA e25 0).toI] :: List.take P.length P)))), (104, (.some (.dat 2 1 ([DV.int .i64 (cellA e32 0).toI] :: List.take H.length H)))), (50090, (.some (.dat 40 2 (A ++ [[DV.int .i64 0, DV.int .i64 c]]))))]))
 none)
 none))
 none)
 none))
 none)
 none))
 none)
 none))
 none))
 none))
 none)))
 none)))
 none)))
 none)))
 none))
 (k (.ex 0) (St.of [(0, (.d (.sla false 1 p))), (1, (.d (.sla false 1 h))), (7, (.aref 90 2 0 (A.length))), (8, (.aref 97 1 0 (P.length))), (9, (.aref 104 1 0 (H.length))), (10, (.d (.int .i64 m)))] [(90, (.some (.dat 40 2 A))), (97, (.some (.dat 2 1 P))), (104, (.some (.dat 2 1 H))), (50090, .none)]))) from by kernel_rfl).trans (by first | rfl | (simp only [decide_true, decide_false, eq_self, and_true, true_and, and_self, cond_true, cond_false, Nat.le_refl, Int.le_refl, Option.getD_some, Option.getD_none, Int.toNat_natCast, List.take_length, List.drop_zero, Nat.zero_add, List.nil_append, List.all_nil, List.append_nil, Bool.true_and, Bool.and_true, rowsA_sla, rowsA_sl, rowsA_nil, minus_zero, nat_le_cast, nat_nonneg, Option.isSome_some, Option.isSome_none, Bool.false_eq_true, false_and, and_false, if_true, if_false, implies_true, Int.toNat_zero, Bool.not_false, Bool.not_true, bne_self_eq_false]; done) | (simp only [decide_true, decide_false, eq_self, and_true, true_and, and_self, cond_true, cond_false, Nat.le_refl, Int.le_refl, Option.getD_some, Option.getD_none, Int.toNat_natCast, List.take_length, List.drop_zero, Nat.zero_add, List.nil_append, List.all_nil, List.append_nil, Bool.true_and, Bool.and_true, rowsA_sla, rowsA_sl, rowsA_nil, minus_zero, nat_le_cast, nat_nonneg, Option.isSome_some, Option.isSome_none, Bool.false_eq_true, false_and, and_false, if_true, if_false, implies_true, Int.toNat_zero, Bool.not_false, Bool.not_true, bne_self_eq_false]; rfl))
theorem t12 (L n : Nat) (p h : List (List DV)) (c : Int) : FK tab spY lp12 L (n+8) 12 [.sla false 1 p, .sla false 1 h, .int .i64 c] =
   (bif
 bif bif bif (↑p.length : Int) != (↑h.length : Int) then true else decide ((↑p.length : Int) > (6 : Int)) then true else decide (c < (0 : Int)) then true
 else decide (c > (10000 : Int)) then
 some (DV.bool true)
 else
 bif allB (okP p h) then
 bif decide (p.length = (0 : Nat)) then
 need
 (LoopOk (LB tab spY lp12 L (n + (8 : Nat)) h120 c12l0)
 (St.of
 [(0, AV.d (DV.sla false 1 p)), (1, AV.d (DV.sla false 1 h)), (2, AV.d (DV.int .i64 c)),
 ((7 : Nat), AV.d DV.nilsl), (8, AV.d DV.nilsl), (9, AV.d DV.nilsl), (10, AV.d (DV.int .i64 0)),
 ((11 : Nat), AV.d (DV.int .i64 0))]
 [(90, none), (97, none), (104, none), (50090, none)])
 (Ex.ex (0 : Nat),
 St.of
 [(0, AV.d (DV.sla false 1 p)), (1, AV.d (DV.sla false 1 h)), (7, AV.d DV.nilsl),
 ((8 : Nat), AV.d DV.nilsl), (9, AV.d DV.nilsl), (10, AV.d (DV.int .i64 0))]
 [(90, none), (97, none), (104, none), (50090, none)]))
 (need (valS.D [DV.nilsl, DV.sla false 1 p, DV.sla false 1 h])
 (need (valS.D [DV.nilsl, DV.nilsl, DV.nilsl])
 (bif
 decide
 ((h ++ [[DV.int .i64 1]]).length * (8 : Nat) ≤ room ∧
 (h ++ [[DV.int .i64 1]]).length ≤ room ∧ (h.all fun (e : List DV) => e.length == (1 : Nat) && e.all DV.one) = true) then
 need (valS.D [DV.nilsl, DV.sla false 1 p, DV.sl SK.ro 1 (h ++ [[DV.int .i64 1]])])
 (bif
 bif
 bif
 bif bif vOk [] p h then vOk [] [] [] else false then (bif vOk [] p h then sumZ (wsA [] p h) else (0 : Int)) == (0 : Int)
 else false then
 (bif vOk [] [] [] then sumZ (wsA [] [] []) else (0 : Int)) == (0 : Int)
 else false then
 !vOk [] p (h ++ [[DV.int .i64 1]])
 else false then
 need (trueS.D []) (some (DV.bool true))
 else some (DV.bool false))
 else none)))
 else
 bif decide (p.length = (1 : Nat)) then
 need
 (LoopOk (LB tab spY lp12 L (n + (8 : Nat)) h120 c12l0)
 (St.of
 [(0, AV.d (DV.sla false 1 p)), (1, AV.d (DV.sla false 1 h)), (2, AV.d (DV.int .i64 c)),
 ((7 : Nat), AV.d DV.nilsl), (8, AV.d DV.nilsl), (9, AV.d DV.nilsl), (10, AV.d (DV.int .i64 0)),
 ((11 : Nat), AV.d (DV.int .i64 0))]
 [(90, none), (97, none), (104, none), (50090, none)])
 (Ex.ex (0 : Nat),
 St.of
 [(0, AV.d (DV.sla false 1 p)), (1, AV.d (DV.sla false 1 h)),
 ((7 : Nat), AV.aref 90 2 0 (aN c p.length).length), (8, AV.d (DV.sl SK.tight 1 p.reverse)),
 ((9 : Nat), AV.d (DV.sl SK.tight 1 h.reverse)), (10, AV.d (DV.int .i64 (sumZ (wl c p h))))]
 [(90, some (Ob.dat 40 2 (aN c p.length))), (97, none), (104, none), (50090, none)]))
 (need (valS.D [DV.sl SK.ro 2 (aN c p.length), DV.sla false 1 p, DV.sla false 1 h])
 (need (valS.D [DV.sl SK.ro 2 (aN c p.length), DV.sl SK.tight 1 p.reverse, DV.sl SK.tight 1 h.reverse])
 (bif
 decide
 ((h ++ [[DV.int .i64 1]]).length * (8 : Nat) ≤ room ∧
 (h ++ [[DV.int .i64 1]]).length ≤ room ∧ (h.all fun (e : List DV) => e.length == (1 : Nat) && e.all DV.one) = true) then
 need
 (valS.D [DV.sl SK.ro 2 (aN c p.length), DV.sla false 1 p, DV.sl SK.ro 1 (h ++ [[DV.int .i64 1]])])
 (bif
 bif
 bif
 bif bif vOk (aN c p.length) p h then vOk (aN c p.length) p.reverse h.reverse else false then
 (bif vOk (aN c p.length) p h then sumZ (wsA (aN c p.length) p h) else (0 : Int)) == sumZ (wl c p h)
 else false then
 (bif vOk (aN c p.length) p.reverse h.reverse then sumZ (wsA (aN c p.length) p.reverse h.reverse) else (0 : Int)) ==
 sumZ (wl c p h)
 else false then
 !vOk (aN c p.length) p (h ++ [[DV.int .i64 1]])
 else false then
 need (trueS.D []) (some (DV.bool true))
 else some (DV.bool false))
 else none)))
 else
 bif decide (p.length % (2 : Nat) = (1 : Nat)) then
 need
 (LoopOk (LB tab spY lp12 L (n + (8 : Nat)) h120 c12l0)
 (St.of
 [(0, AV.d (DV.sla false 1 p)), (1, AV.d (DV.sla false 1 h)), (2, AV.d (DV.int .i64 c)),
 ((7 : Nat), AV.d DV.nilsl), (8, AV.d DV.nilsl), (9, AV.d DV.nilsl), (10, AV.d (DV.int .i64 0)),
 ((11 : Nat), AV.d (DV.int .i64 0))]
 [(90, none), (97, none), (104, none), (50090, none)])
 (Ex.ex (0 : Nat),
 St.of
 [(0, AV.d (DV.sla false 1 p)), (1, AV.d (DV.sla false 1 h)),
 ((7 : Nat), AV.aref 90 2 0 (aN c p.length).length),
 ((8 : Nat), AV.aref 97 1 0 p.reverse.length),
 ((9 : Nat), AV.aref 104 1 0 h.reverse.length), (10, AV.d (DV.int .i64 (sumZ (wl c p h))))]
 [(90, some (Ob.dat 40 2 (aN c p.length))), (97, some (Ob.dat 2 1 p.reverse)),
 ((104 : Nat), some (Ob.dat 2 1 h.reverse)), (50090, none)]))
 (need (valS.D [DV.sl SK.ro 2 (aN c p.length), DV.sla false 1 p, DV.sla false 1 h])
 (need (valS.D [DV.sl SK.ro 2 (aN c p.length), DV.sl SK.ro 1 p.reverse, DV.sl SK.ro 1 h.reverse])
 (bif
 decide
 ((h ++ [[DV.int .i64 1]]).length * (8 : Nat) ≤ room ∧
 (h ++ [[DV.int .i64 1]]).length ≤ room ∧
 (h.all fun (e : List DV) => e.length == (1 : Nat) && e.all DV.one) = true) then
 need
 (valS.D
 [DV.sl SK.ro 2 (aN c p.length), DV.sla false 1 p, DV.sl SK.ro 1 (h ++ [[DV.int .i64 1]])])
 (bif
 bif
 bif
 bif bif vOk (aN c p.length) p h then vOk (aN c p.length) p.reverse h.reverse else false then
 (bif vOk (aN c p.length) p h then sumZ (wsA (aN c p.length) p h) else (0 : Int)) == sumZ (wl c p h)
 else false then
 (bif vOk (aN c p.length) p.reverse h.reverse then sumZ (wsA (aN c p.length) p.reverse h.reverse) else (0 : Int)) ==
 sumZ (wl c p h)
 else false then
 !vOk (aN c p.length) p (h ++ [[DV.int .i64 1]])
 else false then
 need (trueS.D []) (some (DV.bool true))
 else some (DV.bool false))
 else none)))
 else
 need
 (LoopOk (LB tab spY lp12 L (n + (8 : Nat)) h120 c12l0)
 (St.of
 [(0, AV.d (DV.sla false 1 p)), (1, AV.d (DV.sla false 1 h)), (2, AV.d (DV.int .i64 c)),
 ((7 : Nat), AV.d DV.nilsl), (8, AV.d DV.nilsl), (9, AV.d DV.nilsl), (10, AV.d (DV.int .i64 0)),
 ((11 : Nat), AV.d (DV.int .i64 0))]
 [(90, none), (97, none), (104, none), (50090, none)])
 (Ex.ex (0 : Nat),
 St.of
 [(0, AV.d (DV.sla false 1 p)), (1, AV.d (DV.sla false 1 h)),
 ((7 : Nat), AV.aref 50090 2 0 (aN c p.length).length),
 ((8 : Nat), AV.aref 97 1 0 p.reverse.length),
 ((9 : Nat), AV.aref 104 1 0 h.reverse.length), (10, AV.d (DV.int .i64 (sumZ (wl c p h))))]
 [(90, none), (97, some (Ob.dat 2 1 p.reverse)),
 ((104 : Nat), some (Ob.dat 2 1 h.reverse)), (50090, some (Ob.dat 40 2 (aN c p.length)))]))
 (need (valS.D [DV.sl SK.ro 2 (aN c p.length), DV.sla false 1 p, DV.sla false 1 h])
 (need (valS.D [DV.sl SK.ro 2 (aN c p.length), DV.sl SK.ro 1 p.reverse, DV.sl SK.ro 1 h.reverse])
 (bif
 decide
 ((h ++ [[DV.int .i64 1]]).length * (8 : Nat) ≤ room ∧
 (h ++ [[DV.int .i64 1]]).length ≤ room ∧
 (h.all fun (e : List DV) => e.length == (1 : Nat) && e.all DV.one) = true) then
 need
 (valS.D
 [DV.sl SK.ro 2 (aN c p.length), DV.sla false 1 p, DV.sl SK.ro 1 (h ++ [[DV.int .i64 1]])])
 (bif
 bif
 bif
 bif bif vOk (aN c p.length) p h then vOk (aN c p.length) p.reverse h.reverse else false then
 (bif vOk (aN c p.length) p h then sumZ (wsA (aN c p.length) p h) else (0 : Int)) == sumZ (wl c p h)
 else false then
 (bif vOk (aN c p.length) p.reverse h.reverse then sumZ (wsA (aN c p.length) p.reverse h.reverse) else (0 : Int)) ==
 sumZ (wl c p h)
 else false then
 !vOk (aN c p.length) p (h ++ [[DV.int .i64 1]])
 else false then
 need (trueS.D []) (some (DV.bool true))
 else some (DV.bool false))
 else none)))
 else
 need
 (LoopOk (LB tab spY lp12 L (n + (8 : Nat)) h120 c12l0)
 (St.of
 [(0, AV.d (DV.sla false 1 p)), (1, AV.d (DV.sla false 1 h)), (2, AV.d (DV.int .i64 c)),
 ((7 : Nat), AV.d DV.nilsl), (8, AV.d DV.nilsl), (9, AV.d DV.nilsl), (10, AV.d (DV.int .i64 0)),
 ((11 : Nat), AV.d (DV.int .i64 0))]
 [(90, none), (97, none), (104, none), (50090, none)])
 (Ex.ret, St.of [(6, AV.d (DV.bool true))] [(109, none), (116, none), (152, none)]))
 (some (DV.bool true))) :=
  (show FK tab spY lp12 L (n+8) 12 [.sla false 1 p, .sla false 1 h, .int .i64 c] =
 (cond (bif bif bif (↑p.length : Int) != (↑h.length : Int) then true else decide ((↑p.length : Int) > (6 : Int)) then true else decide (c < (0 : Int)) then true else decide (c > (10000 : Int)))
 (some (.bool true))
 (cond (allB (okP (rowsA (DV.sla false 1 p)) (rowsA (DV.sla false 1 h))))
 (cond (decide ((rowsA (DV.sla false 1 p)).length = (0 : Nat)))
 (need (LoopOk (LB tab spY lp12 L (n + (8 : Nat)) h120 c12l0) (St.of [(0, (.d (.sla false 1 p))), (1, (.d (.sla false 1 h))), (2, (.d (.int .i64 c))), (7, (.d .nilsl)), (8, (.d .nilsl)), (9, (.d .nilsl)), (10, (.d (.int .i64 ((0 : Int))))), (11, (.d (.int .i64 ((0 : Int)))))] [(90, .none), (97, .none), (104, .none), (50090, .none)]) ((.ex 0), (St.of [(0, (.d (.sla false 1 (rowsA (DV.sla false 1 p))))), (1, (.d (.sla false 1 (rowsA (DV.sla false 1 h))))), (7, (.d .nilsl)), (8, (.d .nilsl)), (9, (.d .nilsl)), (10, (.d (.int .i64 ((0 : Int)))))] [(90, .none), (97, .none), (104, .none), (50090, .none)])))
 (need (FSpec.D (valS) [.nilsl, (.sla false 1 (rowsA (DV.sla false 1 p))), (.sla false 1 (rowsA (DV.sla false 1 h)))])
 (need (FSpec.D (valS) [.nilsl, .nilsl, .nilsl])
 (cond (decide ((some (↑(rowsA (DV.sla false 1 h)).length : Int)).getD (↑(rowsA (DV.sla false 1 h)).length : Int) ≤ (↑(rowsA (DV.sla false 1 h)).length : Int)))
 (cond (decide ((some (↑(rowsA (DV.sla false 1 h)).length : Int)).isSome = true ∧ (↑(rowsA (DV.sla false 1 h)).length : Int) = (some (↑(rowsA (DV.sla false 1 h)).length : Int)).getD (↑(rowsA (DV.sla false 1 h)).length : Int)))
 (cond (decide ((1 : Nat) = (1 : Nat) ∧ (List.drop (none.getD (0 : Int)).toNat (List.take ((some (↑(rowsA (DV.sla false 1 h)).length : Int)).getD (↑(rowsA (DV.sla false 1 h)).length : Int)).toNat (rowsA (DV.sla false 1 h))) ++ [[DV.int .i64 1]]).length * (8 : Nat) ≤ room ∧ (List.drop (none.getD (0 : Int)).toNat (List.take ((some (↑(rowsA (DV.sla false 1 h)).length : Int)).getD (↑(rowsA (DV.sla false 1 h)).length : Int)).toNat (rowsA (DV.sla false 1 h))) ++ [[DV.int .i64 1]]).length ≤ room ∧ ((List.drop (none.getD (0 : Int)).toNat (List.take ((some (↑(rowsA (DV.sla false 1 h)).length : Int)).getD (↑(rowsA (DV.sla false 1 h)).length : Int)).toNat (rowsA (DV.sla false 1 h)))).all fun (e : List DV) => e.length == (1 : Nat) && e.all DV.one) = true))
 (cond (decide ((0 : Nat) + (List.drop (none.getD (0 : Int)).toNat (List.take ((some (↑(rowsA (DV.sla false 1 h)).length : Int)).getD (↑(rowsA (DV.sla false 1 h)).length : Int)).toNat (rowsA (DV.sla false 1 h))) ++ [[DV.int .i64 1]]).length ≤ (List.drop (none.getD (0 : Int)).toNat (List.take ((some (↑(rowsA (DV.sla false 1 h)).length : Int)).getD (↑(rowsA (DV.sla false 1 h)).length : Int)).toNat (rowsA (DV.sla false 1 h))) ++ [[DV.int .i64 1]]).length))
 (need (FSpec.D (valS) [.nilsl, (.sla false 1 (rowsA (DV.sla false 1 p))), (.sl (SK.ro) 1 (List.take (List.drop (none.getD (0 : Int)).toNat (List.take ((some (↑(rowsA (DV.sla false 1 h)).length : Int)).getD (↑(rowsA (DV.sla false 1 h)).length : Int)).toNat (rowsA (DV.sla false 1 h))) ++ [[DV.int .i64 1]]).length (List.drop (none.getD (0 : Int)).toNat (List.take ((some (↑(rowsA (DV.sla false 1 h)).length : Int)).getD (↑(rowsA (DV.sla false 1 h)).length : Int)).toNat (rowsA (DV.sla false 1 h))) ++ [[DV.int .i64 1]])))])
 (cond (bif bif bif bif vOk (rowsA DV.nilsl) (rowsA (DV.sla false 1 (rowsA (DV.sla false 1 p)))) (rowsA (DV.sla false 1 (rowsA (DV.sla false 1 h)))) then vOk (rowsA DV.nilsl) (rowsA DV.nilsl) (rowsA DV.nilsl) else false then (bif vOk (rowsA DV.nilsl) (rowsA (DV.sla false 1 (rowsA (DV.sla false 1 p)))) (rowsA (DV.sla false 1 (rowsA (DV.sla false 1 h)))) then sumZ (wsA (rowsA DV.nilsl) (rowsA (DV.sla false 1 (rowsA (DV.sla false 1 p)))) (rowsA (DV.sla false 1 (rowsA (DV.sla false 1 h))))) else (0 : Int)) == (0 : Int) else false then (bif vOk (rowsA DV.nilsl) (rowsA DV.nilsl) (rowsA DV.nilsl) then sumZ (wsA (rowsA DV.nilsl) (rowsA DV.nilsl) (rowsA DV.nilsl)) else (0 : Int)) == (0 : Int) else false then !vOk (rowsA DV.nilsl) (rowsA (DV.sla false 1 (rowsA (DV.sla false 1 p)))) (rowsA (DV.sl SK.ro 1 (List.take (List.drop (none.getD (0 : Int)).toNat (List.take ((some (↑(rowsA (DV.sla false 1 h)).length : Int)).getD (↑(rowsA (DV.sla false 1 h)).length : Int)).toNat (rowsA (DV.sla false 1 h))) ++ [[DV.int .i64 1]]).length (List.drop (none.getD (0 : Int)).toNat (List.take ((some (↑(rowsA (DV.sla false 1 h)).length : Int)).getD (↑(rowsA (DV.sla false 1 h)).length : Int)).toNat (rowsA (DV.sla false 1 h))) ++ [[DV.int .i64 1]])))) else false)
 (need (FSpec.D (trueS) [])
 (some (.bool true)))
 (some (.bool false))))
 none)
 none)
 none)
 none))))
 (cond (decide ((rowsA (DV.sla false 1 p)).length = (1 : Nat)))
 (need (LoopOk (LB tab spY lp12 L (n + (8 : Nat)) h120 c12l0) (St.of [(0, (.d (.sla false 1 p))), (1, (.d (.sla false 1 h))), (2, (.d (.int .i64 c))), (7, (.d .nilsl)), (8, (.d .nilsl)), (9, (.d .nilsl)), (10, (.d (.int .i64 ((0 : Int))))), (11, (.d (.int .i64 ((0 : Int)))))] [(90, .none), (97, .none), (104, .none), (50090, .none)]) ((.ex 0), (St.of [(0, (.d (.sla false 1 (rowsA (DV.sla false 1 p))))), (1, (.d (.sla false 1 (rowsA (DV.sla false 1 h))))), (7, (.aref 90 2 0 ((aN c (rowsA (DV.sla false 1 p)).length).length))), (8, (.d (.sl (SK.tight) 1 ((rowsA (DV.sla false 1 p)).reverse)))), (9, (.d (.sl (SK.tight) 1 ((rowsA (DV.sla false 1 h)).reverse)))), (10, (.d (.int .i64 (sumZ (wl c (rowsA (DV.sla false 1 p)) (rowsA (DV.sla false 1 h)))))))] [(90, (.some (.dat 40 2 (aN c (rowsA (DV.sla false 1 p)).length)))), (97, .none), (104, .none), (50090, .none)])))
 (cond (decide ((0 : Nat) + (aN c (rowsA (DV.sla false 1 p)).length).length ≤ (aN c (rowsA (DV.sla false 1 p)).length).length))
 (need (FSpec.D (valS) [(.sl (SK.ro) 2 (List.take (aN c (rowsA (DV.sla false 1 p)).length).length (aN c (rowsA (DV.sla false 1 p)).length))), (.sla false 1 (rowsA (DV.sla false 1 p))), (.sla false 1 (rowsA (DV.sla false 1 h)))])
 (cond (decide ((0 : Nat) + (aN c (rowsA (DV.sla false 1 p)).length).length ≤ (aN c (rowsA (DV.sla false 1 p)).length).length))
 (need (FSpec.D (valS) [(.sl (SK.ro) 2 (List.take (aN c (rowsA (DV.sla false 1 p)).length).length (aN c (rowsA (DV.sla false 1 p)).length))), (.sl (SK.tight) 1 ((rowsA (DV.sla false 1 p)).reverse)), (.sl (SK.tight) 1 ((rowsA (DV.sla false 1 h)).reverse))])
 (cond (decide ((some (↑(rowsA (DV.sla false 1 h)).length : Int)).getD (↑(rowsA (DV.sla false 1 h)).length : Int) ≤ (↑(rowsA (DV.sla false 1 h)).length : Int)))
 (cond (decide ((some (↑(rowsA (DV.sla false 1 h)).length : Int)).isSome = true ∧ (↑(rowsA (DV.sla false 1 h)).length : Int) = (some (↑(rowsA (DV.sla false 1 h)).length : Int)).getD (↑(rowsA (DV.sla false 1 h)).length : Int)))
 (cond (decide ((1 : Nat) = (1 : Nat) ∧ (List.drop (none.getD (0 : Int)).toNat (List.take ((some (↑(rowsA (DV.sla false 1 h)).length : Int)).getD (↑(rowsA (DV.sla false 1 h)).length : Int)).toNat (rowsA (DV.sla false 1 h))) ++ [[DV.int .i64 1]]).length * (8 : Nat) ≤ room ∧ (List.drop (none.getD (0 : Int)).toNat (List.take ((some (↑(rowsA (DV.sla false 1 h)).length : Int)).getD (↑(rowsA (DV.sla false 1 h)).length : Int)).toNat (rowsA (DV.sla false 1 h))) ++ [[DV.int .i64 1]]).length ≤ room ∧ ((List.drop (none.getD (0 : Int)).toNat (List.take ((some (↑(rowsA (DV.sla false 1 h)).length : Int)).getD (↑(rowsA (DV.sla false 1 h)).length : Int)).toNat (rowsA (DV.sla false 1 h)))).all fun (e : List DV) => e.length == (1 : Nat) && e.all DV.one) = true))
 (cond (decide ((0 : Nat) + (aN c (rowsA (DV.sla false 1 p)).length).length ≤ (aN c (rowsA (DV.sla false 1 p)).length).length))
 (cond (decide ((0 : Nat) + (List.drop (none.getD (0 : Int)).toNat (List.take ((some (↑(rowsA (DV.sla false 1 h)).length : Int)).getD (↑(rowsA (DV.sla false 1 h)).length : Int)).toNat (rowsA (DV.sla false 1 h))) ++ [[DV.int .i64 1]]).length ≤ (List.drop (none.getD (0 : Int)).toNat (List.take ((some (↑(rowsA (DV.sla false 1 h)).length : Int)).getD (↑(rowsA (DV.sla false 1 h)).length : Int)).toNat (rowsA (DV.sla false 1 h))) ++ [[DV.int .i64 1]]).length))
 (need (FSpec.D (valS) [(.sl (SK.ro) 2 (List.take (aN c (rowsA (DV.sla false 1 p)).length).length (aN c (rowsA (DV.sla false 1 p)).length))), (.sla false 1 (rowsA (DV.sla false 1 p))), (.sl (SK.ro) 1 (List.take (List.drop (none.getD (0 : Int)).toNat (List.take ((some (↑(rowsA (DV.sla false 1 h)).length : Int)).getD (↑(rowsA (DV.sla false 1 h)).length : Int)).toNat (rowsA (DV.sla false 1 h))) ++ [[DV.int .i64 1]]).length (List.drop (none.getD (0 : Int)).toNat (List.take ((some (↑(rowsA (DV.sla false 1 h)).length : Int)).getD (↑(rowsA (DV.sla false 1 h)).length : Int)).toNat (rowsA (DV.sla false 1 h))) ++ [[DV.int .i64 1]])))])
 (cond (bif bif bif bif vOk (rowsA (DV.sl SK.ro 2 (List.take (aN c (rowsA (DV.sla false 1 p)).length).length (aN c (rowsA (DV.sla false 1 p)).length)))) (rowsA (DV.sla false 1 (rowsA (DV.sla false 1 p)))) (rowsA (DV.sla false 1 (rowsA (DV.sla false 1 h)))) then vOk (rowsA (DV.sl SK.ro 2 (List.take (aN c (rowsA (DV.sla false 1 p)).length).length (aN c (rowsA (DV.sla false 1 p)).length)))) (rowsA (DV.sl SK.tight 1 (rowsA (DV.sla false 1 p)).reverse)) (rowsA (DV.sl SK.tight 1 (rowsA (DV.sla false 1 h)).reverse)) else false then (bif vOk (rowsA (DV.sl SK.ro 2 (List.take (aN c (rowsA (DV.sla false 1 p)).length).length (aN c (rowsA (DV.sla false 1 p)).length)))) (rowsA (DV.sla false 1 (rowsA (DV.sla false 1 p)))) (rowsA (DV.sla false 1 (rowsA (DV.sla false 1 h)))) then sumZ (wsA (rowsA (DV.sl SK.ro 2 (List.take (aN c (rowsA (DV.sla false 1 p)).length).length (aN c (rowsA (DV.sla false 1 p)).length)))) (rowsA (DV.sla false 1 (rowsA (DV.sla false 1 p)))) (rowsA (DV.sla false 1 (rowsA (DV.sla false 1 h))))) else (0 : Int)) == sumZ (wl c (rowsA (DV.sla false 1 p)) (rowsA (DV.sla false 1 h))) else false then (bif vOk (rowsA (DV.sl SK.ro 2 (List.take (aN c (rowsA (DV.sla false 1 p)).length).length (aN c (rowsA (DV.sla false 1 p)).length)))) (rowsA (DV.sl SK.tight 1 (rowsA (DV.sla false 1 p)).reverse)) (rowsA (DV.sl SK.tight 1 (rowsA (DV.sla false 1 h)).reverse)) then sumZ (wsA (rowsA (DV.sl SK.ro 2 (List.take (aN c (rowsA (DV.sla false 1 p)).length).length (aN c (rowsA (DV.sla false 1 p)).length)))) (rowsA (DV.sl SK.tight 1 (rowsA (DV.sla false 1 p)).reverse)) (rowsA (DV.sl SK.tight 1 (rowsA (DV.sla false 1 h)).reverse))) else (0 : Int)) == sumZ (wl c (rowsA (DV.sla false 1 p)) (rowsA (DV.sla false 1 h))) else false then !vOk (rowsA (DV.sl SK.ro 2 (List.take (aN c (rowsA (DV.sla false 1 p)).length).length (aN c (rowsA (DV.sla false 1 p)).length)))) (rowsA (DV.sla false 1 (rowsA (DV.sla false 1 p)))) (rowsA (DV.sl SK.ro 1 (List.take (List.drop (none.getD (0 : Int)).toNat (List.take ((some (↑(rowsA (DV.sla false 1 h)).length : Int)).getD (↑(rowsA (DV.sla false 1 h)).length : Int)).toNat (rowsA (DV.sla false 1 h))) ++ [[DV.int .i64 1]]).length (List.drop (none.getD (0 : Int)).toNat (List.take ((some (↑(rowsA (DV.sla false 1 h)).length : Int)).getD (↑(rowsA (DV.sla false 1 h)).length : Int)).toNat (rowsA (DV.sla false 1 h))) ++ [[DV.int .i64 1]])))) else false)
 (need (FSpec.D (trueS) [])
 (some (.bool true)))
 (some (.bool false))))
 none)
 none)
 none)
 none)
 none))
 none))
 none))
 (cond (decide ((rowsA (DV.sla false 1 p)).length % (2 : Nat) = (1 : Nat)))
 (need (LoopOk (LB tab spY lp12 L (n + (8 : Nat)) h120 c12l0) (St.of [(0, (.d (.sla false 1 p))), (1, (.d (.sla false 1 h))), (2, (.d (.int .i64 c))), (7, (.d .nilsl)), (8, (.d .nilsl)), (9, (.d .nilsl)), (10, (.d (.int .i64 ((0 : Int))))), (11, (.d (.int .i64 ((0 : Int)))))] [(90, .none), (97, .none), (104, .none), (50090, .none)]) ((.ex 0), (St.of [(0, (.d (.sla false 1 (rowsA (DV.sla false 1 p))))), (1, (.d (.sla false 1 (rowsA (DV.sla false 1 h))))), (7, (.aref 90 2 0 ((aN c (rowsA (DV.sla false 1 p)).length).length))), (8, (.aref 97 1 0 ((rowsA (DV.sla false 1 p)).reverse.length))), (9, (.aref 104 1 0 ((rowsA (DV.sla false 1 h)).reverse.length))), (10, (.d (.int .i64 (sumZ (wl c (rowsA (DV.sla false 1 p)) (rowsA (DV.sla false 1 h)))))))] [(90, (.some (.dat 40 2 (aN c (rowsA (DV.sla false 1 p)).length)))), (97, (.some (.dat 2 1 ((rowsA (DV.sla false 1 p)).reverse)))), (104, (.some (.dat 2 1 ((rowsA (DV.sla false 1 h)).reverse)))), (50090, .none)])))
 (cond (decide ((0 : Nat) + (aN c (rowsA (DV.sla false 1 p)).length).length ≤ (aN c (rowsA (DV.sla false 1 p)).length).length))
 (need (FSpec.D (valS) [(.sl (SK.ro) 2 (List.take (aN c (rowsA (DV.sla false 1 p)).length).length (aN c (rowsA (DV.sla false 1 p)).length))), (.sla false 1 (rowsA (DV.sla false 1 p))), (.sla false 1 (rowsA (DV.sla false 1 h)))])
 (cond (decide ((0 : Nat) + (aN c (rowsA (DV.sla false 1 p)).length).length ≤ (aN c (rowsA (DV.sla false 1 p)).length).length))
 (cond (decide ((0 : Nat) + (rowsA (DV.sla false 1 p)).reverse.length ≤ (rowsA (DV.sla false 1 p)).reverse.length))
 (cond (decide ((0 : Nat) + (rowsA (DV.sla false 1 h)).reverse.length ≤ (rowsA (DV.sla false 1 h)).reverse.length))
 (need (FSpec.D (valS) [(.sl (SK.ro) 2 (List.take (aN c (rowsA (DV.sla false 1 p)).length).length (aN c (rowsA (DV.sla false 1 p)).length))), (.sl (SK.ro) 1 (List.take (rowsA (DV.sla false 1 p)).reverse.length (rowsA (DV.sla false 1 p)).reverse)), (.sl (SK.ro) 1 (List.take (rowsA (DV.sla false 1 h)).reverse.length (rowsA (DV.sla false 1 h)).reverse))])
 (cond (decide ((some (↑(rowsA (DV.sla false 1 h)).length : Int)).getD (↑(rowsA (DV.sla false 1 h)).length : Int) ≤ (↑(rowsA (DV.sla false 1 h)).length : Int)))
 (cond (decide ((some (↑(rowsA (DV.sla false 1 h)).length : Int)).isSome = true ∧ (↑(rowsA (DV.sla false 1 h)).length : Int) = (some (↑(rowsA (DV.sla false 1 h)).length : Int)).getD (↑(rowsA (DV.sla false 1 h)).length : Int)))
 (cond (decide ((1 : Nat) = (1 : Nat) ∧ (List.drop (none.getD (0 : Int)).toNat (List.take ((some (↑(rowsA (DV.sla false 1 h)).length : Int)).getD (↑(rowsA (DV.sla false 1 h)).length : Int)).toNat (rowsA (DV.sla false 1 h))) ++ [[DV.int .i64 1]]).length * (8 : Nat) ≤ room ∧ (List.drop (none.getD (0 : Int)).toNat (List.take ((some (↑(rowsA (DV.sla false 1 h)).length : Int)).getD (↑(rowsA (DV.sla false 1 h)).length : Int)).toNat (rowsA (DV.sla false 1 h))) ++ [[DV.int .i64 1]]).length ≤ room ∧ ((List.drop (none.getD (0 : Int)).toNat (List.take ((some (↑(rowsA (DV.sla false 1 h)).length : Int)).getD (↑(rowsA (DV.sla false 1 h)).length : Int)).toNat (rowsA (DV.sla false 1 h)))).all fun (e : List DV) => e.length == (1 : Nat) && e.all DV.one) = true))
 (cond (decide ((0 : Nat) + (aN c (rowsA (DV.sla false 1 p)).length).length ≤ (aN c (rowsA (DV.sla false 1 p)).length).length))
 (cond (decide ((0 : Nat) + (List.drop (none.getD (0 : Int)).toNat (List.take ((some (↑(rowsA (DV.sla false 1 h)).length : Int)).getD (↑(rowsA (DV.sla false 1 h)).length : Int)).toNat (rowsA (DV.sla false 1 h))) ++ [[DV.int .i64 1]]).length ≤ (List.drop (none.getD (0 : Int)).toNat (List.take ((some (↑(rowsA (DV.sla false 1 h)).length : Int)).getD (↑(rowsA (DV.sla false 1 h)).length : Int)).toNat (rowsA (DV.sla false 1 h))) ++ [[DV.int .i64 1]]).length))
 (need (FSpec.D (valS) [(.sl (SK.ro) 2 (List.take (aN c (rowsA (DV.sla false 1 p)).length).length (aN c (rowsA (DV.sla false 1 p)).length))), (.sla false 1 (rowsA (DV.sla false 1 p))), (.sl (SK.ro) 1 (List.take (List.drop (none.getD (0 : Int)).toNat (List.take ((some (↑(rowsA (DV.sla false 1 h)).length : Int)).getD (↑(rowsA (DV.sla false 1 h)).length : Int)).toNat (rowsA (DV.sla false 1 h))) ++ [[DV.int .i64 1]]).length (List.drop (none.getD (0 : Int)).toNat (List.take ((some (↑(rowsA (DV.sla false 1 h)).length : Int)).getD (↑(rowsA (DV.sla false 1 h)).length : Int)).toNat (rowsA (DV.sla false 1 h))) ++ [[DV.int .i64 1]])))])
 (cond (bif bif bif bif vOk (rowsA (DV.sl SK.ro 2 (List.take (aN c (rowsA (DV.sla false 1 p)).length).length (aN c (rowsA (DV.sla false 1 p)).length)))) (rowsA (DV.sla false 1 (rowsA (DV.sla false 1 p)))) (rowsA (DV.sla false 1 (rowsA (DV.sla false 1 h)))) then vOk (rowsA (DV.sl SK.ro 2 (List.take (aN c (rowsA (DV.sla false 1 p)).length).length (aN c (rowsA (DV.sla false 1 p)).length)))) (rowsA (DV.sl SK.ro 1 (List.take (rowsA (DV.sla false 1 p)).reverse.length (rowsA (DV.sla false 1 p)).reverse))) (rowsA (DV.sl SK.ro 1 (List.take (rowsA (DV.sla false 1 h)).reverse.length (rowsA (DV.sla false 1 h)).reverse))) else false then (bif vOk (rowsA (DV.sl SK.ro 2 (List.take (aN c (rowsA (DV.sla false 1 p)).length).length (aN c (rowsA (DV.sla false 1 p)).length)))) (rowsA (DV.sla false 1 (rowsA (DV.sla false 1 p)))) (rowsA (DV.sla false 1 (rowsA (DV.sla false 1 h)))) then sumZ (wsA (rowsA (DV.sl SK.ro 2 (List.take (aN c (rowsA (DV.sla false 1 p)).length).length (aN c (rowsA (DV.sla false 1 p)).length)))) (rowsA (DV.sla false 1 (rowsA (DV.sla false 1 p)))) (rowsA (DV.sla false 1 (rowsA (DV.sla false 1 h))))) else (0 : Int)) == sumZ (wl c (rowsA (DV.sla false 1 p)) (rowsA (DV.sla false 1 h))) else false then (bif vOk (rowsA (DV.sl SK.ro 2 (List.take (aN c (rowsA (DV.sla false 1 p)).length).length (aN c (rowsA (DV.sla false 1 p)).length)))) (rowsA (DV.sl SK.ro 1 (List.take (rowsA (DV.sla false 1 p)).reverse.length (rowsA (DV.sla false 1 p)).reverse))) (rowsA (DV.sl SK.ro 1 (List.take (rowsA (DV.sla false 1 h)).reverse.length (rowsA (DV.sla false 1 h)).reverse))) then sumZ (wsA (rowsA (DV.sl SK.ro 2 (List.take (aN c (rowsA (DV.sla false 1 p)).length).length (aN c (rowsA (DV.sla false 1 p)).length)))) (rowsA (DV.sl SK.ro 1 (List.take (rowsA (DV.sla false 1 p)).reverse.length (rowsA (DV.sla false 1 p)).reverse))) (rowsA (DV.sl SK.ro 1 (List.take (rowsA (DV.sla false 1 h)).reverse.length (rowsA (DV.sla false 1 h)).reverse)))) else (0 : Int)) == sumZ (wl c (rowsA (DV.sla false 1 p)) (rowsA (DV.sla false 1 h))) else false then !vOk (rowsA (DV.sl SK.ro 2 (List.take (aN c (rowsA (DV.sla false 1 p)).length).length (aN c (rowsA (DV.sla false 1 p)).length)))) (rowsA (DV.sla false 1 (rowsA (DV.sla false 1 p)))) (rowsA (DV.sl SK.ro 1 (List.take (List.drop (none.getD (0 : Int)).toNat (List.take ((some (↑(rowsA (DV.sla false 1 h)).length : Int)).getD (↑(rowsA (DV.sla false 1 h)).length : Int)).toNat (rowsA (DV.sla false 1 h))) ++ [[DV.int .i64 1]]).length (List.drop (none.getD (0 : Int)).toNat (List.take ((some (↑(rowsA (DV.sla false 1 h)).length : Int)).getD (↑(rowsA (DV.sla false 1 h)).length : Int)).toNat (rowsA (DV.sla false 1 h))) ++ [[DV.int .i64 1]])))) else false)
 (need (FSpec.D (trueS) [])
 (some (.bool true)))
 (some (.bool false))))
 none)
 none)
 none)
 none)
 none))
 none)
 none)
 none))
 none))
 (need (LoopOk (LB tab spY lp12 L (n + (8 : Nat)) h120 c12l0) (St.of [(0, (.d (.sla false 1 p))), (1, (.d (.sla false 1 h))), (2, (.d (.int .i64 c))), (7, (.d .nilsl)), (8, (.d .nilsl)), (9, (.d .nilsl)), (10, (.d (.int .i64 ((0 : Int))))), (11, (.d (.int .i64 ((0 : Int)))))] [(90, .none), (97, .none), (104, .none), (50090, .none)]) ((.ex 0), (St.of [(0, (.d (.sla false 1 (rowsA (DV.sla false 1 p))))), (1, (.d (.sla false 1 (rowsA (DV.sla false 1 h))))), (7, (.aref 50090 2 0 ((aN c (rowsA (DV.sla false 1 p)).length).length))), (8, (.aref 97 1 0 ((rowsA (DV.sla false 1 p)).reverse.length))), (9, (.aref 104 1 0 ((rowsA (DV.sla false 1 h)).reverse.length))), (10, (.d (.int .i64 (sumZ (wl c (rowsA (DV.sla false 1 p)) (rowsA (DV.sla false 1 h)))))))] [(90, .none), (97, (.some (.dat 2 1 ((rowsA (DV.sla false 1 p)).reverse)))), (104, (.some (.dat 2 1 ((rowsA (DV.sla false 1 h)).reverse)))), (50090, (.some (.dat 40 2 (aN c (rowsA (DV.sla false 1 p)).length))))])))
 (cond (decide ((0 : Nat) + (aN c (rowsA (DV.sla false 1 p)).length).length ≤ (aN c (rowsA (DV.sla false 1 p)).length).length))
 (need (FSpec.D (valS) [(.sl (SK.ro) 2 (List.take (aN c (rowsA (DV.sla false 1 p)).length).length (aN c (rowsA (DV.sla false 1 p)).length))), (.sla false 1 (rowsA (DV.sla false 1 p))), (.sla false 1 (rowsA (DV.sla false 1 h)))])
 (cond (decide ((0 : Nat) + (aN c (rowsA (DV.sla false 1 p)).length).length ≤ (aN c (rowsA (DV.sla false 1 p)).length).length))
 (cond (decide ((0 : Nat) + (rowsA (DV.sla false 1 p)).reverse.length ≤ (rowsA (DV.sla false 1 p)).reverse.length))
 (cond (decide ((0 : Nat) + (rowsA (DV.sla false 1 h)).reverse.length ≤ (rowsA (DV.sla false 1 h)).reverse.length))
 (need (FSpec.D (valS) [(.sl (SK.ro) 2 (List.take (aN c (rowsA (DV.sla false 1 p)).length).length (aN c (rowsA (DV.sla false 1 p)).length))), (.sl (SK.ro) 1 (List.take (rowsA (DV.sla false 1 p)).reverse.length (rowsA (DV.sla false 1 p)).reverse)), (.sl (SK.ro) 1 (List.take (rowsA (DV.sla false 1 h)).reverse.length (rowsA (DV.sla false 1 h)).reverse))])
 (cond (decide ((some (↑(rowsA (DV.sla false 1 h)).length : Int)).getD (↑(rowsA (DV.sla false 1 h)).length : Int) ≤ (↑(rowsA (DV.sla false 1 h)).length : Int)))
 (cond (decide ((some (↑(rowsA (DV.sla false 1 h)).length : Int)).isSome = true ∧ (↑(rowsA (DV.sla false 1 h)).length : Int) = (some (↑(rowsA (DV.sla false 1 h)).length : Int)).getD (↑(rowsA (DV.sla false 1 h)).length : Int)))
 (cond (decide ((1 : Nat) = (1 : Nat) ∧ (List.drop (none.getD (0 : Int)).toNat (List.take ((some (↑(rowsA (DV.sla false 1 h)).length : Int)).getD (↑(rowsA (DV.sla false 1 h)).length : Int)).toNat (rowsA (DV.sla false 1 h))) ++ [[DV.int .i64 1]]).length * (8 : Nat) ≤ room ∧ (List.drop (none.getD (0 : Int)).toNat (List.take ((some (↑(rowsA (DV.sla false 1 h)).length : Int)).getD (↑(rowsA (DV.sla false 1 h)).length : Int)).toNat (rowsA (DV.sla false 1 h))) ++ [[DV.int .i64 1]]).length ≤ room ∧ ((List.drop (none.getD (0 : Int)).toNat (List.take ((some (↑(rowsA (DV.sla false 1 h)).length : Int)).getD (↑(rowsA (DV.sla false 1 h)).length : Int)).toNat (rowsA (DV.sla false 1 h)))).all fun (e : List DV) => e.length == (1 : Nat) && e.all DV.one) = true))
 (cond (decide ((0 : Nat) + (aN c (rowsA (DV.sla false 1 p)).length).length ≤ (aN c (rowsA (DV.sla false 1 p)).length).length))
 (cond (decide ((0 : Nat) + (List.drop (none.getD (0 : Int)).toNat (List.take ((some (↑(rowsA (DV.sla false 1 h)).length : Int)).getD (↑(rowsA (DV.sla false 1 h)).length : Int)).toNat (rowsA (DV.sla false 1 h))) ++ [[DV.int .i64 1]]).length ≤ (List.drop (none.getD (0 : Int)).toNat (List.take ((some (↑(rowsA (DV.sla false 1 h)).length : Int)).getD (↑(rowsA (DV.sla false 1 h)).length : Int)).toNat (rowsA (DV.sla false 1 h))) ++ [[DV.int .i64 1]]).length))
 (need (FSpec.D (valS) [(.sl (SK.ro) 2 (List.take (aN c (rowsA (DV.sla false 1 p)).length).length (aN c (rowsA (DV.sla false 1 p)).length))), (.sla false 1 (rowsA (DV.sla false 1 p))), (.sl (SK.ro) 1 (List.take (List.drop (none.getD (0 : Int)).toNat (List.take ((some (↑(rowsA (DV.sla false 1 h)).length : Int)).getD (↑(rowsA (DV.sla false 1 h)).length : Int)).toNat (rowsA (DV.sla false 1 h))) ++ [[DV.int .i64 1]]).length (List.drop (none.getD (0 : Int)).toNat (List.take ((some (↑(rowsA (DV.sla false 1 h)).length : Int)).getD (↑(rowsA (DV.sla false 1 h)).length : Int)).toNat (rowsA (DV.sla false 1 h))) ++ [[DV.int .i64 1]])))])
 (cond (bif bif bif bif vOk (rowsA (DV.sl SK.ro 2 (List.take (aN c (rowsA (DV.sla false 1 p)).length).length (aN c (rowsA (DV.sla false 1 p)).length)))) (rowsA (DV.sla false 1 (rowsA (DV.sla false 1 p)))) (rowsA (DV.sla false 1 (rowsA (DV.sla false 1 h)))) then vOk (rowsA (DV.sl SK.ro 2 (List.take (aN c (rowsA (DV.sla false 1 p)).length).length (aN c (rowsA (DV.sla false 1 p)).length)))) (rowsA (DV.sl SK.ro 1 (List.take (rowsA (DV.sla false 1 p)).reverse.length (rowsA (DV.sla false 1 p)).reverse))) (rowsA (DV.sl SK.ro 1 (List.take (rowsA (DV.sla false 1 h)).reverse.length (rowsA (DV.sla false 1 h)).reverse))) else false then (bif vOk (rowsA (DV.sl SK.ro 2 (List.take (aN c (rowsA (DV.sla false 1 p)).length).length (aN c (rowsA (DV.sla false 1 p)).length)))) (rowsA (DV.sla false 1 (rowsA (DV.sla false 1 p)))) (rowsA (DV.sla false 1 (rowsA (DV.sla false 1 h)))) then sumZ (wsA (rowsA (DV.sl SK.ro 2 (List.take (aN c (rowsA (DV.sla false 1 p)).length).length (aN c (rowsA (DV.sla false 1 p)).length)))) (rowsA (DV.sla false 1 (rowsA (DV.sla false 1 p)))) (rowsA (DV.sla false 1 (rowsA (DV.sla false 1 h))))) else (0 : Int)) == sumZ (wl c (rowsA (DV.sla false 1 p)) (rowsA (DV.sla false 1 h))) else false then (bif vOk (rowsA (DV.sl SK.ro 2 (List.take (aN c (rowsA (DV.sla false 1 p)).length).length (aN c (rowsA (DV.sla false 1 p)).length)))) (rowsA (DV.sl SK.ro 1 (List.take (rowsA (DV.sla false 1 p)).reverse.length (rowsA (DV.sla false 1 p)).reverse))) (rowsA (DV.sl SK.ro 1 (List.take (rowsA (DV.sla false 1 h)).reverse.length (rowsA (DV.sla false 1 h)).reverse))) then sumZ (wsA (rowsA (DV.sl SK.ro 2 (List.take (aN c (rowsA (DV.sla false 1 p)).length).length (aN c (rowsA (DV.sla false 1 p)).length)))) (rowsA (DV.sl SK.ro 1 (List.take (rowsA (DV.sla false 1 p)).reverse.length (rowsA (DV.sla false 1 p)).reverse))) (rowsA (DV.sl SK.ro 1 (List.take (rowsA (DV.sla false 1 h)).reverse.length (rowsA (DV.sla false 1 h)).reverse)))) else (0 : Int)) == sumZ (wl c (rowsA (DV.sla false 1 p)) (rowsA (DV.sla false 1 h))) else false then !vOk (rowsA (DV.sl SK.ro 2 (List.take (aN c (rowsA (DV.sla false 1 p)).length).length (aN c (rowsA (DV.sla false 1 p)).length)))) (rowsA (DV.sla false 1 (rowsA (DV.sla false 1 p)))) (rowsA (DV.sl SK.ro 1 (List.take (List.drop (none.getD (0 : Int)).toNat (List.take ((some (↑(rowsA (DV.sla false 1 h)).length : Int)).getD (↑(rowsA (DV.sla false 1 h)).length : Int)).toNat (rowsA (DV.sla false 1 h))) ++ [[DV.int .i64 1]]).length (List.drop (none.getD (0 : Int)).toNat (List.take ((some (↑(rowsA (DV.sla false 1 h)).length : Int)).getD (↑(rowsA (DV.sla false 1 h)).length : Int)).toNat (rowsA (DV.sla false 1 h))) ++ [[DV.int .i64 1]])))) else false)
 (need (FSpec.D (trueS) [])
 (some (.bool true)))
 (some (.bool false))))
 none)
 none)
 none)
 none)
 none))
 none)
 none)
 none))
 none)))))
 (need (LoopOk (LB tab spY lp12 L (n + (8 : Nat)) h120 c12l0) (St.of [(0, (.d (.sla false 1 p))), (1, (.d (.sla false 1 h))), (2, (.d (.int .i64 c))), (7, (.d .nilsl)), (8, (.d .nilsl)), (9, (.d .nilsl)), (10, (.d (.int .i64 ((0 : Int))))), (11, (.d (.int .i64 ((0 : Int)))))] [(90, .none), (97, .none), (104, .none), (50090, .none)]) (.ret, (St.of [(6, (.d (.bool true)))] [(109, .none), (116, .none), (152, .none)])))
 (some (.bool true))))) from by kernel_rfl).trans (by first | rfl | (simp only [decide_true, decide_false, eq_self, and_true, true_and, and_self, cond_true, cond_false, Nat.le_refl, Int.le_refl, Option.getD_some, Option.getD_none, Int.toNat_natCast, List.take_length, List.drop_zero, Nat.zero_add, List.nil_append, List.all_nil, List.append_nil, Bool.true_and, Bool.and_true, rowsA_sla, rowsA_sl, rowsA_nil, minus_zero, nat_le_cast, nat_nonneg, Option.isSome_some, Option.isSome_none, Bool.false_eq_true, false_and, and_false, if_true, if_false, implies_true, Int.toNat_zero, Bool.not_false, Bool.not_true, bne_self_eq_false]; done) | (simp only [decide_true, decide_false, eq_self, and_true, true_and, and_self, cond_true, cond_false, Nat.le_refl, Int.le_refl, Option.getD_some, Option.getD_none, Int.toNat_natCast, List.take_length, List.drop_zero, Nat.zero_add, List.nil_append, List.all_nil, List.append_nil, Bool.true_and, Bool.and_true, rowsA_sla, rowsA_sl, rowsA_nil, minus_zero, nat_le_cast, nat_nonneg, Option.isSome_some, Option.isSome_none, Bool.false_eq_true, false_and, and_false, if_true, if_false, implies_true, Int.toNat_zero, Bool.not_false, Bool.not_true, bne_self_eq_false]; rfl))
theorem w_bound {a b c : Int} (h : 0 ≤ a ∧ a ≤ 1048576 ∧ 0 ≤ b ∧ b ≤ 68719476736) (h0 : 0 ≤ c) (h1 : c ≤ 10000) : wOk a b c = true ∧ 0 ≤ wI a b c ∧ wI a b c ≤ 72057594037927936 := by
  obtain ⟨a1, a2, b1, b2⟩ := h
  have h2 : a * b ≤ 1048576 * 68719476736 := Int.mul_le_mul a2 b2 b1 (by omega)
  have h3 : 0 ≤ a * b := Int.mul_nonneg a1 b1
  have h4 : a * b * (10000 - c) ≤ 72057594037927936 * 10000 := Int.mul_le_mul (by omega) (by omega) (by omega) (by omega)
  have h5 : 0 ≤ a * b * (10000 - c) := Int.mul_nonneg h3 (by omega)
  have h6 : wI a b c ≤ 72057594037927936 := by unfold wI; omega
  have h7 : 0 ≤ wI a b c := by unfold wI; omega
  exact ⟨decide_eq_true ⟨a1, b1, h0, h1, by omega⟩, h7, h6⟩
section
variable {c : Int} (h0 : 0 ≤ c) (h1 : c ≤ 10000)
include h0 h1
theorem w_at {a b : List DV} (h : okR a b = true) : oAt [.int .i64 0, .int .i64 c] a b = true ∧ 0 ≤ wAt [.int .i64 0, .int .i64 c] a b ∧ wAt [.int .i64 0, .int .i64 c] a b ≤ 72057594037927936 := by
  obtain ⟨q1, q2, q3⟩ := w_bound (of_decide_eq_true h) h0 h1
  refine ⟨q1, ?_⟩
  show 0 ≤ cond (wOk (cel a) (cel b) c) (wI (cel a) (cel b) c) 0 ∧ cond (wOk (cel a) (cel b) c) (wI (cel a) (cel b) c) 0 ≤ 72057594037927936
  rw [q1]
  exact ⟨q2, q3⟩
theorem wl_facts : ∀ (p h : List (List DV)), h.length = p.length → allB (okP p h) = true → ∀ n, p.length ≤ n →
    wsA (aN c n) p h = wl c p h ∧ allB (osA (aN c n) p h) = true ∧ 0 ≤ sumZ (wl c p h) ∧ sumZ (wl c p h) ≤ 72057594037927936 * (p.length : Int)
  | [], h, hl, _, n, _ => by
    have : h = [] := List.eq_nil_of_length_eq_zero hl
    subst this
    cases n <;> simp [wsA, osA, wl, allB, sumZ, aN]
  | a :: p, [], hl, _, _, _ => by simp at hl
  | a :: p, b :: h, hl, hok, 0, hn => by simp at hn
  | a :: p, b :: h, hl, hok, n + 1, hn => by
    have hok' : okR a b = true ∧ allB (okP p h) = true := by
      simpa [okP, allB] using hok
    obtain ⟨w1, w2, w3⟩ := w_at h0 h1 hok'.1
    obtain ⟨i1, i2, i3, i4⟩ := wl_facts p h (by simpa using hl) hok'.2 n (by simpa using hn)
    have e1 : wsA (aN c (n + 1)) (a :: p) (b :: h) = row1 (wAt [.int .i64 0, .int .i64 c] a b) :: wsA (aN c n) p h := rfl
    have e2 : wl c (a :: p) (b :: h) = row1 (wAt [.int .i64 0, .int .i64 c] a b) :: wl c p h := rfl
    have e3 : osA (aN c (n + 1)) (a :: p) (b :: h) = oAt [.int .i64 0, .int .i64 c] a b :: osA (aN c n) p h := rfl
    have e4 : sumZ (wl c (a :: p) (b :: h)) = wAt [.int .i64 0, .int .i64 c] a b + sumZ (wl c p h) := rfl
    refine ⟨by rw [e1, e2, i1], ?_, by rw [e4]; omega, ?_⟩
    · rw [e3]
      unfold allB at i2 ⊢
      rw [List.all_cons, i2, w1]
      rfl
    · rw [e4]
      simp only [List.length_cons]
      omega
end
theorem sumZ_rev : ∀ l : List (List DV), sumZ l.reverse = sumZ l
  | [] => rfl
  | e :: l => by
    rw [List.reverse_cons, sumZ_append, sumZ_rev l]
    simp only [sumZ]
    omega
theorem wl_rev (c : Int) {p h : List (List DV)} (hl : h.length = p.length) : sumZ (wl c p.reverse h.reverse) = sumZ (wl c p h) := by
  unfold wl
  rw [← List.reverse_zipWith (by rw [hl]), sumZ_rev]
theorem ok_rev {p h : List (List DV)} (hl : h.length = p.length) : allB (okP p.reverse h.reverse) = allB (okP p h) := by
  unfold okP allB
  rw [← List.reverse_zipWith (by rw [hl]), List.all_reverse]
theorem ok_drop {p h : List (List DV)} {i : Nat} (hi : i < p.length) (hih : i < h.length) : allB ((okP p h).drop i) = (okR p[i] h[i] && allB ((okP p h).drop (i + 1))) := by
  have hl : i < (okP p h).length := by simp [okP]; omega
  rw [List.drop_eq_getElem_cons hl]
  simp only [okP, List.getElem_zipWith, allB, List.all_cons, id]
theorem bad4 {a b : Int} {R X : Option DV} (h : ¬ (0 ≤ a ∧ a ≤ 1048576 ∧ 0 ≤ b ∧ b ≤ 68719476736)) : cond (decide (a < 0)) R (cond (decide (a > 1048576)) R (cond (decide (b < 0)) R (cond (decide (b > 68719476736)) R X))) = R := by
  by_cases h1 : a < 0
  · rw [decide_eq_true h1]; rfl
  · by_cases h2 : a > 1048576
    · rw [decide_eq_false h1, decide_eq_true h2]; rfl
    · by_cases h3 : b < 0
      · rw [decide_eq_false h1, decide_eq_false h2, decide_eq_true h3]; rfl
      · rw [decide_eq_false h1, decide_eq_false h2, decide_eq_false h3, decide_eq_true (show b > 68719476736 by omega)]; rfl
theorem good4 {a b : Int} {R X : Option DV} (h : 0 ≤ a ∧ a ≤ 1048576 ∧ 0 ≤ b ∧ b ≤ 68719476736) : cond (decide (a < 0)) R (cond (decide (a > 1048576)) R (cond (decide (b < 0)) R (cond (decide (b > 68719476736)) R X))) = X := by
  rw [decide_eq_false (show ¬ a < 0 by omega), decide_eq_false (show ¬ a > 1048576 by omega), decide_eq_false (show ¬ b < 0 by omega), decide_eq_false (show ¬ b > 68719476736 by omega)]
  rfl
def m120 (c : Int) (p h : List (List DV)) (i : Nat) : Int := sumZ (wl c (p.take i) (h.take i))
def P120 (p h : List (List DV)) (c : Int) (i : Nat) : St :=
  cond (decide (i = 0)) (S120 p h c (.d .nilsl) (.d .nilsl) (.d .nilsl) 0 (i : Nat) [(90, none), (97, none), (104, none), (50090, none)])
    (cond (decide (i = 1)) (S120 p h c (.aref 90 2 0 (aN c i).length) (.d (.sl .tight 1 (p.take i).reverse)) (.d (.sl .tight 1 (h.take i).reverse)) (m120 c p h i) (i : Nat) [(90, some (.dat 40 2 (aN c i))), (97, none), (104, none), (50090, none)])
      (cond (decide (i % 2 = 1)) (S120 p h c (.aref 90 2 0 (aN c i).length) (.aref 97 1 0 (p.take i).reverse.length) (.aref 104 1 0 (h.take i).reverse.length) (m120 c p h i) (i : Nat) [(90, some (.dat 40 2 (aN c i))), (97, some (.dat 2 1 (p.take i).reverse)), (104, some (.dat 2 1 (h.take i).reverse)), (50090, none)])
        (S120 p h c (.aref 50090 2 0 (aN c i).length) (.aref 97 1 0 (p.take i).reverse.length) (.aref 104 1 0 (h.take i).reverse.length) (m120 c p h i) (i : Nat) [(90, none), (97, some (.dat 2 1 (p.take i).reverse)), (104, some (.dat 2 1 (h.take i).reverse)), (50090, some (.dat 40 2 (aN c i)))])))
theorem P0 (p h : List (List DV)) (c : Int) : P120 p h c 0 = S120 p h c (.d .nilsl) (.d .nilsl) (.d .nilsl) 0 ((0 : Nat) : Int) [(90, none), (97, none), (104, none), (50090, none)] := rfl
theorem P1 (p h : List (List DV)) (c : Int) : P120 p h c 1 = S120 p h c (.aref 90 2 0 (aN c 1).length) (.d (.sl .tight 1 (p.take 1).reverse)) (.d (.sl .tight 1 (h.take 1).reverse)) (m120 c p h 1) ((1 : Nat) : Int) [(90, some (.dat 40 2 (aN c 1))), (97, none), (104, none), (50090, none)] := rfl
theorem Podd (p h : List (List DV)) (c : Int) {i : Nat} (h1 : i ≠ 1) (h2 : i % 2 = 1) : P120 p h c i = S120 p h c (.aref 90 2 0 (aN c i).length) (.aref 97 1 0 (p.take i).reverse.length) (.aref 104 1 0 (h.take i).reverse.length) (m120 c p h i) (i : Nat) [(90, some (.dat 40 2 (aN c i))), (97, some (.dat 2 1 (p.take i).reverse)), (104, some (.dat 2 1 (h.take i).reverse)), (50090, none)] := by
  unfold P120
  rw [decide_eq_false (show ¬ i = 0 by omega), decide_eq_false h1, decide_eq_true h2]
  rfl
theorem Peven (p h : List (List DV)) (c : Int) {i : Nat} (h1 : i ≠ 0) (h2 : i % 2 = 0) : P120 p h c i = S120 p h c (.aref 50090 2 0 (aN c i).length) (.aref 97 1 0 (p.take i).reverse.length) (.aref 104 1 0 (h.take i).reverse.length) (m120 c p h i) (i : Nat) [(90, none), (97, some (.dat 2 1 (p.take i).reverse)), (104, some (.dat 2 1 (h.take i).reverse)), (50090, some (.dat 40 2 (aN c i)))] := by
  unfold P120
  rw [decide_eq_false h1, decide_eq_false (show ¬ i = 1 by omega), decide_eq_false (show ¬ i % 2 = 1 by omega)]
  rfl
end Go.Proofs.Ytianifckopijjaa
