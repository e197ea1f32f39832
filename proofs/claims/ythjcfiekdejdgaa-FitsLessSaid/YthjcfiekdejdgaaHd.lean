/- What is known of the three accounts' books. No condition. -/
import Derived.Test.YthjcfiekdejdgaaHc
namespace Go.Proofs.Ythjcfiekdejdgaa
open Go Go.Proofs Go.RowKit Vm
set_option linter.unusedVariables false
set_option linter.unusedSimpArgs false
def hvI (h : List (List DV)) (j : Nat) : Int := cond (decide ((j : Int) < (h.length : Int))) (and64 (cel (h[j]?.getD [])) 63) 0
def Oa (h : List (List DV)) (n : Nat) : List (List DV) := (List.range n).map fun j => [.int .i64 (hvI h j), .int .i64 0, .int .i64 0]
def n1 : List (List DV) := [[.int .i64 (-1)], [.int .i64 (-1)], [.int .i64 (-1)]]
def n0 : List (List DV) := [[.int .i64 0], [.int .i64 0], [.int .i64 0]]
def S19o (v : AV) : List (Nat × Option Ob) := [(4, some (.dat 26 4 [[.nilsl, .nilsl, .nilsl, .nilsl]])), (5, some (.mix 26 4 [[v, .aref 11 1 0 3, .aref 12 1 0 3, .aref 16 1 0 3]])), (8, some (.dat 2 1 n1)), (9, some (.dat 2 1 n1)), (10, some (.dat 2 1 n1)), (11, some (.mix 24 1 [[.aref 8 1 0 3], [.aref 9 1 0 3], [.aref 10 1 0 3]])), (12, some (.dat 2 1 n1)), (13, some (.dat 2 1 n0)), (14, some (.dat 2 1 n0)), (15, some (.dat 2 1 n0)), (16, some (.mix 24 1 [[.aref 13 1 0 3], [.aref 14 1 0 3], [.aref 15 1 0 3]]))]
def S190 (h : List (List DV)) (w : Int) (v : AV) (i : Int) (o1 o2 : Option Ob) : St := St.of [(0, .d (.sla false 1 h)), (1, .d (.int .i64 w)), (4, .ptr 4 4 0 0), (5, .ptr 5 4 0 0), (6, .d (.int .i64 i))] ((37, o1) :: (50037, o2) :: S19o v)
def E190 (w : Int) (v : AV) (o1 o2 : Option Ob) : St := St.of [(1, .d (.int .i64 w)), (4, .ptr 4 4 0 0), (5, .ptr 5 4 0 0)] ((37, o1) :: (50037, o2) :: S19o v)
def l190 : LSpec := fun st => match st.env 0, st.env 1 with
  | .d (.sla _ _ h), .d (.int _ w) => .one (.ex 0) (E190 w (.aref 37 3 0 3) (some (.dat 47 3 (Oa h 3))) none)
  | _, _ => .no
def lD (k : Nat) : Option LSpec := if k = 190 then some l190 else none
theorem s190a (L n : Nat) (h : List (List DV)) (w : Int) (k : Kont) : LB tab noSp lD L (n+4) h190 c19l0 (S190 h w (.d .nilsl) 0 none none) k =
   (bif decide ((0 : Int) < (↑h.length : Int)) then
 lookK h[(0 : Nat)]? fun (e1 : List DV) =>
 bif okRow [DV.int .i64 0] e1 then
 k Ex.nrm
 (St.of
 [(0, AV.d (DV.sla false 1 h)), (1, AV.d (DV.int .i64 w)),
 ((4 : Nat), AV.ptr 4 4 0 0), (5, AV.ptr 5 4 0 0),
 ((6 : Nat), AV.d (DV.int .i64 (IntKind.i64.wrap (1 : Int))))]
 [((37 : Nat),
 some
 (Ob.dat 47 3
 [[DV.int .i64
 (IntKind.i64.wrap (↑(BitVec.ofInt IntKind.i64.bits (cellA e1 0).toI &&& BitVec.ofInt IntKind.i64.bits (63 : Int)).toNat : Int)), DV.int .i64 0, DV.int .i64 0]])),
 ((50037 : Nat), none), (4, some (Ob.dat 26 4 [[DV.nilsl, DV.nilsl, DV.nilsl, DV.nilsl]])),
 ((5 : Nat),
 some
 (Ob.mix (26 : TypeId) (4 : Nat)
 [[AV.aref 37 3 0 (1 : Nat), AV.aref 11 1 0 (3 : Nat),
 AV.aref 12 1 0 (3 : Nat), AV.aref 16 1 0 (3 : Nat)]])),
 ((8 : Nat),
 some (Ob.dat 2 1 [[DV.int .i64 (-1 : Int)], [DV.int .i64 (-1 : Int)], [DV.int .i64 (-1 : Int)]])),
 ((9 : Nat),
 some (Ob.dat 2 1 [[DV.int .i64 (-1 : Int)], [DV.int .i64 (-1 : Int)], [DV.int .i64 (-1 : Int)]])),
 ((10 : Nat),
 some (Ob.dat 2 1 [[DV.int .i64 (-1 : Int)], [DV.int .i64 (-1 : Int)], [DV.int .i64 (-1 : Int)]])),
 ((11 : Nat),
 some
 (Ob.mix (24 : TypeId) (1 : Nat)
 [[AV.aref 8 1 0 (3 : Nat)], [AV.aref 9 1 0 (3 : Nat)],
 [AV.aref 10 1 0 (3 : Nat)]])),
 ((12 : Nat),
 some (Ob.dat 2 1 [[DV.int .i64 (-1 : Int)], [DV.int .i64 (-1 : Int)], [DV.int .i64 (-1 : Int)]])),
 ((13 : Nat), some (Ob.dat 2 1 [[DV.int .i64 0], [DV.int .i64 0], [DV.int .i64 0]])),
 ((14 : Nat), some (Ob.dat 2 1 [[DV.int .i64 0], [DV.int .i64 0], [DV.int .i64 0]])),
 ((15 : Nat), some (Ob.dat 2 1 [[DV.int .i64 0], [DV.int .i64 0], [DV.int .i64 0]])),
 ((16 : Nat),
 some
 (Ob.mix (24 : TypeId) (1 : Nat)
 [[AV.aref 13 1 0 (3 : Nat)], [AV.aref 14 1 0 (3 : Nat)],
 [AV.aref 15 1 0 (3 : Nat)]]))])
 else none
 else
 k Ex.nrm
 (St.of
 [(0, AV.d (DV.sla false 1 h)), (1, AV.d (DV.int .i64 w)), (4, AV.ptr 4 4 0 0),
 ((5 : Nat), AV.ptr 5 4 0 0), (6, AV.d (DV.int .i64 (IntKind.i64.wrap (1 : Int))))]
 [(37, some (Ob.dat 47 3 [[DV.int .i64 0, DV.int .i64 0, DV.int .i64 0]])),
 ((50037 : Nat), none), (4, some (Ob.dat 26 4 [[DV.nilsl, DV.nilsl, DV.nilsl, DV.nilsl]])),
 ((5 : Nat),
 some
 (Ob.mix (26 : TypeId) (4 : Nat)
 [[AV.aref 37 3 0 (1 : Nat), AV.aref 11 1 0 (3 : Nat),
 AV.aref 12 1 0 (3 : Nat), AV.aref 16 1 0 (3 : Nat)]])),
 ((8 : Nat), some (Ob.dat 2 1 [[DV.int .i64 (-1 : Int)], [DV.int .i64 (-1 : Int)], [DV.int .i64 (-1 : Int)]])),
 ((9 : Nat), some (Ob.dat 2 1 [[DV.int .i64 (-1 : Int)], [DV.int .i64 (-1 : Int)], [DV.int .i64 (-1 : Int)]])),
 ((10 : Nat), some (Ob.dat 2 1 [[DV.int .i64 (-1 : Int)], [DV.int .i64 (-1 : Int)], [DV.int .i64 (-1 : Int)]])),
 ((11 : Nat),
 some
 (Ob.mix (24 : TypeId) (1 : Nat)
 [[AV.aref 8 1 0 (3 : Nat)], [AV.aref 9 1 0 (3 : Nat)],
 [AV.aref 10 1 0 (3 : Nat)]])),
 ((12 : Nat), some (Ob.dat 2 1 [[DV.int .i64 (-1 : Int)], [DV.int .i64 (-1 : Int)], [DV.int .i64 (-1 : Int)]])),
 ((13 : Nat), some (Ob.dat 2 1 [[DV.int .i64 0], [DV.int .i64 0], [DV.int .i64 0]])),
 ((14 : Nat), some (Ob.dat 2 1 [[DV.int .i64 0], [DV.int .i64 0], [DV.int .i64 0]])),
 ((15 : Nat), some (Ob.dat 2 1 [[DV.int .i64 0], [DV.int .i64 0], [DV.int .i64 0]])),
 ((16 : Nat),
 some
 (Ob.mix (24 : TypeId) (1 : Nat)
 [[AV.aref 13 1 0 (3 : Nat)], [AV.aref 14 1 0 (3 : Nat)],
 [AV.aref 15 1 0 (3 : Nat)]]))])) :=
  (show LB tab noSp lD L (n+4) h190 c19l0 (S190 h w (.d .nilsl) 0 none none) k =
 (cond (decide ((0 : Int) < (↑h.length : Int)))
 (lookK (h[(0 : Nat)]?)
 fun e1 =>
 (cond (okRow [DV.int .i64 0] e1)
 (k .nrm (St.of [(0, (.d (.sla false 1 h))), (1, (.d (.int .i64 w))), (4, (.ptr 4 4 0 0)), (5, (.ptr 5 4 0 0)), (6, (.d (.int .i64 (IntKind.i64.wrap (1 : Int)))))] [(37, (.some (.dat 47 3 [[(.int .i64 (IntKind.i64.wrap (↑(BitVec.ofInt IntKind.i64.bits (cellA e1 0).toI &&& BitVec.ofInt IntKind.i64.bits (63 : Int)).toNat : Int))), (.int .i64 ((0 : Int))), (.int .i64 ((0 : Int)))]]))), (50037, .none), (4, (.some (.dat 26 4 [[.nilsl, .nilsl, .nilsl, .nilsl]]))), (5, (.some (.mix 26 4 [[(.aref 37 3 0 1), (.aref 11 1 0 3), (.aref 12 1 0 3), (.aref 16 1 0 3)]]))), (8, (.some (.dat 2 1 [[(.int .i64 ((-1 : Int)))], [(.int .i64 ((-1 : Int)))], [(.int .i64 ((-1 : Int)))]]))), (9, (.some (.dat 2 1 [[(.int .i64 ((-1 : Int)))], [(.int .i64 ((-1 : Int)))], [(.int .i64 ((-1 : Int)))]]))), (10, (.some (.dat 2 1 [[(.int .i64 ((-1 : Int)))], [(.int .i64 ((-1 : Int)))], [(.int .i64 ((-1 : Int)))]]))), (11, (.some (.mix 24 1 [[(.aref 8 1 0 3)], [(.aref 9 1 0 3)], [(.aref 10 1 0 3)]]))), (12, (.some (.dat 2 1 [[(.int .i64 ((-1 : Int)))], [(.int .i64 ((-1 : Int)))], [(.int .i64 ((-1 : Int)))]]))), (13, (.some (.dat 2 1 [[(.int .i64 ((0 : Int)))], [(.int .i64 ((0 : Int)))], [(.int .i64 ((0 : Int)))]]))), (14, (.some (.dat 2 1 [[(.int .i64 ((0 : Int)))], [(.int .i64 ((0 : Int)))], [(.int .i64 ((0 : Int)))]]))), (15, (.some (.dat 2 1 [[(.int .i64 ((0 : Int)))], [(.int .i64 ((0 : Int)))], [(.int .i64 ((0 : Int)))]]))), (16, (.some (.mix 24 1 [[(.aref 13 1 0 3)], [(.aref 14 1 0 3)], [(.aref 15 1 0 3)]])))]))
 none))
 (k .nrm (St.of [(0, (.d (.sla false 1 h))), (1, (.d (.int .i64 w))), (4, (.ptr 4 4 0 0)), (5, (.ptr 5 4 0 0)), (6, (.d (.int .i64 (IntKind.i64.wrap (1 : Int)))))] [(37, (.some (.dat 47 3 [[(.int .i64 ((0 : Int))), (.int .i64 ((0 : Int))), (.int .i64 ((0 : Int)))]]))), (50037, .none), (4, (.some (.dat 26 4 [[.nilsl, .nilsl, .nilsl, .nilsl]]))), (5, (.some (.mix 26 4 [[(.aref 37 3 0 1), (.aref 11 1 0 3), (.aref 12 1 0 3), (.aref 16 1 0 3)]]))), (8, (.some (.dat 2 1 [[(.int .i64 ((-1 : Int)))], [(.int .i64 ((-1 : Int)))], [(.int .i64 ((-1 : Int)))]]))), (9, (.some (.dat 2 1 [[(.int .i64 ((-1 : Int)))], [(.int .i64 ((-1 : Int)))], [(.int .i64 ((-1 : Int)))]]))), (10, (.some (.dat 2 1 [[(.int .i64 ((-1 : Int)))], [(.int .i64 ((-1 : Int)))], [(.int .i64 ((-1 : Int)))]]))), (11, (.some (.mix 24 1 [[(.aref 8 1 0 3)], [(.aref 9 1 0 3)], [(.aref 10 1 0 3)]]))), (12, (.some (.dat 2 1 [[(.int .i64 ((-1 : Int)))], [(.int .i64 ((-1 : Int)))], [(.int .i64 ((-1 : Int)))]]))), (13, (.some (.dat 2 1 [[(.int .i64 ((0 : Int)))], [(.int .i64 ((0 : Int)))], [(.int .i64 ((0 : Int)))]]))), (14, (.some (.dat 2 1 [[(.int .i64 ((0 : Int)))], [(.int .i64 ((0 : Int)))], [(.int .i64 ((0 : Int)))]]))), (15, (.some (.dat 2 1 [[(.int .i64 ((0 : Int)))], [(.int .i64 ((0 : Int)))], [(.int .i64 ((0 : Int)))]]))), (16, (.some (.mix 24 1 [[(.aref 13 1 0 3)], [(.aref 14 1 0 3)], [(.aref 15 1 0 3)]])))]))) from by kernel_rfl).trans (by first | rfl | (simp only [decide_true, decide_false, eq_self, and_true, true_and, and_self, cond_true, cond_false, Nat.le_refl, Int.le_refl, Option.getD_some, Option.getD_none, Int.toNat_natCast, List.take_length, List.drop_zero, Nat.zero_add, List.nil_append, List.all_nil, List.append_nil, Bool.true_and, Bool.and_true, rowsA_sla, rowsA_sl, rowsA_nil, minus_zero, nat_le_cast, nat_nonneg, Option.isSome_some, Option.isSome_none, Bool.false_eq_true, false_and, and_false, if_true, if_false, implies_true, Int.toNat_zero, Bool.not_false, Bool.not_true, bne_self_eq_false]; done) | (simp only [decide_true, decide_false, eq_self, and_true, true_and, and_self, cond_true, cond_false, Nat.le_refl, Int.le_refl, Option.getD_some, Option.getD_none, Int.toNat_natCast, List.take_length, List.drop_zero, Nat.zero_add, List.nil_append, List.all_nil, List.append_nil, Bool.true_and, Bool.and_true, rowsA_sla, rowsA_sl, rowsA_nil, minus_zero, nat_le_cast, nat_nonneg, Option.isSome_some, Option.isSome_none, Bool.false_eq_true, false_and, and_false, if_true, if_false, implies_true, Int.toNat_zero, Bool.not_false, Bool.not_true, bne_self_eq_false]; rfl))
theorem s190b (L n : Nat) (h : List (List DV)) (w a0 : Int) (k : Kont) : LB tab noSp lD L (n+4) h190 c19l0 (S190 h w (.aref 37 3 0 1) 1 (some (.dat 47 3 [[.int .i64 a0, .int .i64 0, .int .i64 0]])) none) k =
   (bif decide ((1 : Int) < (↑h.length : Int)) then
 lookK h[(1 : Nat)]? fun (e1 : List DV) =>
 bif okRow [DV.int .i64 0] e1 then
 k Ex.nrm
 (St.of
 [(0, AV.d (DV.sla false 1 h)), (1, AV.d (DV.int .i64 w)),
 ((4 : Nat), AV.ptr 4 4 0 0), (5, AV.ptr 5 4 0 0),
 ((6 : Nat), AV.d (DV.int .i64 (IntKind.i64.wrap (2 : Int))))]
 [(37, none),
 ((50037 : Nat),
 some
 (Ob.dat 47 3
 [[DV.int .i64 a0, DV.int .i64 0, DV.int .i64 0],
 [DV.int .i64
 (IntKind.i64.wrap (↑(BitVec.ofInt IntKind.i64.bits (cellA e1 0).toI &&& BitVec.ofInt IntKind.i64.bits (63 : Int)).toNat : Int)), DV.int .i64 0, DV.int .i64 0]])),
 ((4 : Nat), some (Ob.dat 26 4 [[DV.nilsl, DV.nilsl, DV.nilsl, DV.nilsl]])),
 ((5 : Nat),
 some
 (Ob.mix (26 : TypeId) (4 : Nat)
 [[AV.aref (alt (37 : Nat) (37 : Nat)) (3 : Nat) (0 : Nat) (2 : Nat), AV.aref 11 1 0 (3 : Nat),
 AV.aref 12 1 0 (3 : Nat), AV.aref 16 1 0 (3 : Nat)]])),
 ((8 : Nat),
 some (Ob.dat 2 1 [[DV.int .i64 (-1 : Int)], [DV.int .i64 (-1 : Int)], [DV.int .i64 (-1 : Int)]])),
 ((9 : Nat),
 some (Ob.dat 2 1 [[DV.int .i64 (-1 : Int)], [DV.int .i64 (-1 : Int)], [DV.int .i64 (-1 : Int)]])),
 ((10 : Nat),
 some (Ob.dat 2 1 [[DV.int .i64 (-1 : Int)], [DV.int .i64 (-1 : Int)], [DV.int .i64 (-1 : Int)]])),
 ((11 : Nat),
 some
 (Ob.mix (24 : TypeId) (1 : Nat)
 [[AV.aref 8 1 0 (3 : Nat)], [AV.aref 9 1 0 (3 : Nat)],
 [AV.aref 10 1 0 (3 : Nat)]])),
 ((12 : Nat),
 some (Ob.dat 2 1 [[DV.int .i64 (-1 : Int)], [DV.int .i64 (-1 : Int)], [DV.int .i64 (-1 : Int)]])),
 ((13 : Nat), some (Ob.dat 2 1 [[DV.int .i64 0], [DV.int .i64 0], [DV.int .i64 0]])),
 ((14 : Nat), some (Ob.dat 2 1 [[DV.int .i64 0], [DV.int .i64 0], [DV.int .i64 0]])),
 ((15 : Nat), some (Ob.dat 2 1 [[DV.int .i64 0], [DV.int .i64 0], [DV.int .i64 0]])),
 ((16 : Nat),
 some
 (Ob.mix (24 : TypeId) (1 : Nat)
 [[AV.aref 13 1 0 (3 : Nat)], [AV.aref 14 1 0 (3 : Nat)],
 [AV.aref 15 1 0 (3 : Nat)]]))])
 else none
 else
 k Ex.nrm
 (St.of
 [(0, AV.d (DV.sla false 1 h)), (1, AV.d (DV.int .i64 w)), (4, AV.ptr 4 4 0 0),
 ((5 : Nat), AV.ptr 5 4 0 0), (6, AV.d (DV.int .i64 (IntKind.i64.wrap (2 : Int))))]
 [(37, none),
 ((50037 : Nat),
 some
 (Ob.dat 47 3
 [[DV.int .i64 a0, DV.int .i64 0, DV.int .i64 0],
 [DV.int .i64 0, DV.int .i64 0, DV.int .i64 0]])),
 ((4 : Nat), some (Ob.dat 26 4 [[DV.nilsl, DV.nilsl, DV.nilsl, DV.nilsl]])),
 ((5 : Nat),
 some
 (Ob.mix (26 : TypeId) (4 : Nat)
 [[AV.aref (alt (37 : Nat) (37 : Nat)) (3 : Nat) (0 : Nat) (2 : Nat), AV.aref 11 1 0 (3 : Nat),
 AV.aref 12 1 0 (3 : Nat), AV.aref 16 1 0 (3 : Nat)]])),
 ((8 : Nat), some (Ob.dat 2 1 [[DV.int .i64 (-1 : Int)], [DV.int .i64 (-1 : Int)], [DV.int .i64 (-1 : Int)]])),
 ((9 : Nat), some (Ob.dat 2 1 [[DV.int .i64 (-1 : Int)], [DV.int .i64 (-1 : Int)], [DV.int .i64 (-1 : Int)]])),
 ((10 : Nat), some (Ob.dat 2 1 [[DV.int .i64 (-1 : Int)], [DV.int .i64 (-1 : Int)], [DV.int .i64 (-1 : Int)]])),
 ((11 : Nat),
 some
 (Ob.mix (24 : TypeId) (1 : Nat)
 [[AV.aref 8 1 0 (3 : Nat)], [AV.aref 9 1 0 (3 : Nat)],
 [AV.aref 10 1 0 (3 : Nat)]])),
 ((12 : Nat), some (Ob.dat 2 1 [[DV.int .i64 (-1 : Int)], [DV.int .i64 (-1 : Int)], [DV.int .i64 (-1 : Int)]])),
 ((13 : Nat), some (Ob.dat 2 1 [[DV.int .i64 0], [DV.int .i64 0], [DV.int .i64 0]])),
 ((14 : Nat), some (Ob.dat 2 1 [[DV.int .i64 0], [DV.int .i64 0], [DV.int .i64 0]])),
 ((15 : Nat), some (Ob.dat 2 1 [[DV.int .i64 0], [DV.int .i64 0], [DV.int .i64 0]])),
 ((16 : Nat),
 some
 (Ob.mix (24 : TypeId) (1 : Nat)
 [[AV.aref 13 1 0 (3 : Nat)], [AV.aref 14 1 0 (3 : Nat)],
 [AV.aref 15 1 0 (3 : Nat)]]))])) :=
  (show LB tab noSp lD L (n+4) h190 c19l0 (S190 h w (.aref 37 3 0 1) 1 (some (.dat 47 3 [[.int .i64 a0, .int .i64 0, .int .i64 0]])) none) k =
 (cond (decide ((1 : Int) < (↑h.length : Int)))
 (lookK (h[(1 : Nat)]?)
 fun e1 =>
 (cond (okRow [DV.int .i64 0] e1)
 (k .nrm (St.of [(0, (.d (.sla false 1 h))), (1, (.d (.int .i64 w))), (4, (.ptr 4 4 0 0)), (5, (.ptr 5 4 0 0)), (6, (.d (.int .i64 (IntKind.i64.wrap (2 : Int)))))] [(37, .none), (50037, (.some (.dat 47 3 [[(.int .i64 a0), (.int .i64 ((0 : Int))), (.int .i64 ((0 : Int)))], [(.int .i64 (IntKind.i64.wrap (↑(BitVec.ofInt IntKind.i64.bits (cellA e1 0).toI &&& BitVec.ofInt IntKind.i64.bits (63 : Int)).toNat : Int))), (.int .i64 ((0 : Int))), (.int .i64 ((0 : Int)))]]))), (4, (.some (.dat 26 4 [[.nilsl, .nilsl, .nilsl, .nilsl]]))), (5, (.some (.mix 26 4 [[(.aref (alt 37 37) 3 0 2), (.aref 11 1 0 3), (.aref 12 1 0 3), (.aref 16 1 0 3)]]))), (8, (.some (.dat 2 1 [[(.int .i64 ((-1 : Int)))], [(.int .i64 ((-1 : Int)))], [(.int .i64 ((-1 : Int)))]]))), (9, (.some (.dat 2 1 [[(.int .i64 ((-1 : Int)))], [(.int .i64 ((-1 : Int)))], [(.int .i64 ((-1 : Int)))]]))), (10, (.some (.dat 2 1 [[(.int .i64 ((-1 : Int)))], [(.int .i64 ((-1 : Int)))], [(.int .i64 ((-1 : Int)))]]))), (11, (.some (.mix 24 1 [[(.aref 8 1 0 3)], [(.aref 9 1 0 3)], [(.aref 10 1 0 3)]]))), (12, (.some (.dat 2 1 [[(.int .i64 ((-1 : Int)))], [(.int .i64 ((-1 : Int)))], [(.int .i64 ((-1 : Int)))]]))), (13, (.some (.dat 2 1 [[(.int .i64 ((0 : Int)))], [(.int .i64 ((0 : Int)))], [(.int .i64 ((0 : Int)))]]))), (14, (.some (.dat 2 1 [[(.int .i64 ((0 : Int)))], [(.int .i64 ((0 : Int)))], [(.int .i64 ((0 : Int)))]]))), (15, (.some (.dat 2 1 [[(.int .i64 ((0 : Int)))], [(.int .i64 ((0 : Int)))], [(.int .i64 ((0 : Int)))]]))), (16, (.some (.mix 24 1 [[(.aref 13 1 0 3)], [(.aref 14 1 0 3)], [(.aref 15 1 0 3)]])))]))
 none))
 (k .nrm (St.of [(0, (.d (.sla false 1 h))), (1, (.d (.int .i64 w))), (4, (.ptr 4 4 0 0)), (5, (.ptr 5 4 0 0)), (6, (.d (.int .i64 (IntKind.i64.wrap (2 : Int)))))] [(37, .none), (50037, (.some (.dat 47 3 [[(.int .i64 a0), (.int .i64 ((0 : Int))), (.int .i64 ((0 : Int)))], [(.int .i64 ((0 : Int))), (.int .i64 ((0 : Int))), (.int .i64 ((0 : Int)))]]))), (4, (.some (.dat 26 4 [[.nilsl, .nilsl, .nilsl, .nilsl]]))), (5, (.some (.mix 26 4 [[(.aref (alt 37 37) 3 0 2), (.aref 11 1 0 3), (.aref 12 1 0 3), (.aref 16 1 0 3)]]))), (8, (.some (.dat 2 1 [[(.int .i64 ((-1 : Int)))], [(.int .i64 ((-1 : Int)))], [(.int .i64 ((-1 : Int)))]]))), (9, (.some (.dat 2 1 [[(.int .i64 ((-1 : Int)))], [(.int .i64 ((-1 : Int)))], [(.int .i64 ((-1 : Int)))]]))), (10, (.some (.dat 2 1 [[(.int .i64 ((-1 : Int)))], [(.int .i64 ((-1 : Int)))], [(.int .i64 ((-1 : Int)))]]))), (11, (.some (.mix 24 1 [[(.aref 8 1 0 3)], [(.aref 9 1 0 3)], [(.aref 10 1 0 3)]]))), (12, (.some (.dat 2 1 [[(.int .i64 ((-1 : Int)))], [(.int .i64 ((-1 : Int)))], [(.int .i64 ((-1 : Int)))]]))), (13, (.some (.dat 2 1 [[(.int .i64 ((0 : Int)))], [(.int .i64 ((0 : Int)))], [(.int .i64 ((0 : Int)))]]))), (14, (.some (.dat 2 1 [[(.int .i64 ((0 : Int)))], [(.int .i64 ((0 : Int)))], [(.int .i64 ((0 : Int)))]]))), (15, (.some (.dat 2 1 [[(.int .i64 ((0 : Int)))], [(.int .i64 ((0 : Int)))], [(.int .i64 ((0 : Int)))]]))), (16, (.some (.mix 24 1 [[(.aref 13 1 0 3)], [(.aref 14 1 0 3)], [(.aref 15 1 0 3)]])))]))) from by kernel_rfl).trans (by first | rfl | (simp only [decide_true, decide_false, eq_self, and_true, true_and, and_self, cond_true, cond_false, Nat.le_refl, Int.le_refl, Option.getD_some, Option.getD_none, Int.toNat_natCast, List.take_length, List.drop_zero, Nat.zero_add, List.nil_append, List.all_nil, List.append_nil, Bool.true_and, Bool.and_true, rowsA_sla, rowsA_sl, rowsA_nil, minus_zero, nat_le_cast, nat_nonneg, Option.isSome_some, Option.isSome_none, Bool.false_eq_true, false_and, and_false, if_true, if_false, implies_true, Int.toNat_zero, Bool.not_false, Bool.not_true, bne_self_eq_false]; done) | (simp only [decide_true, decide_false, eq_self, and_true, true_and, and_self, cond_true, cond_false, Nat.le_refl, Int.le_refl, Option.getD_some, Option.getD_none, Int.toNat_natCast, List.take_length, List.drop_zero, Nat.zero_add, List.nil_append, List.all_nil, List.append_nil, Bool.true_and, Bool.and_true, rowsA_sla, rowsA_sl, rowsA_nil, minus_zero, nat_le_cast, nat_nonneg, Option.isSome_some, Option.isSome_none, Bool.false_eq_true, false_and, and_false, if_true, if_false, implies_true, Int.toNat_zero, Bool.not_false, Bool.not_true, bne_self_eq_false]; rfl))
theorem s190c (L n : Nat) (h : List (List DV)) (w a0 a1 : Int) (k : Kont) : LB tab noSp lD L (n+4) h190 c19l0 (S190 h w (.aref 50037 3 0 2) 2 none (some (.dat 47 3 [[.int .i64 a0, .int .i64 0, .int .i64 0], [.int .i64 a1, .int .i64 0, .int .i64 0]]))) k =
   (bif decide ((2 : Int) < (↑h.length : Int)) then
 lookK h[(2 : Nat)]? fun (e1 : List DV) =>
 bif okRow [DV.int .i64 0] e1 then
 k Ex.nrm
 (St.of
 [(0, AV.d (DV.sla false 1 h)), (1, AV.d (DV.int .i64 w)),
 ((4 : Nat), AV.ptr 4 4 0 0), (5, AV.ptr 5 4 0 0),
 ((6 : Nat), AV.d (DV.int .i64 (IntKind.i64.wrap (3 : Int))))]
 [((37 : Nat),
 some
 (Ob.dat 47 3
 [[DV.int .i64 a0, DV.int .i64 0, DV.int .i64 0],
 [DV.int .i64 a1, DV.int .i64 0, DV.int .i64 0],
 [DV.int .i64
 (IntKind.i64.wrap (↑(BitVec.ofInt IntKind.i64.bits (cellA e1 0).toI &&& BitVec.ofInt IntKind.i64.bits (63 : Int)).toNat : Int)), DV.int .i64 0, DV.int .i64 0]])),
 ((50037 : Nat), none), (4, some (Ob.dat 26 4 [[DV.nilsl, DV.nilsl, DV.nilsl, DV.nilsl]])),
 ((5 : Nat),
 some
 (Ob.mix (26 : TypeId) (4 : Nat)
 [[AV.aref (alt (50037 : Nat) (37 : Nat)) (3 : Nat) (0 : Nat) (3 : Nat), AV.aref 11 1 0 (3 : Nat),
 AV.aref 12 1 0 (3 : Nat), AV.aref 16 1 0 (3 : Nat)]])),
 ((8 : Nat),
 some (Ob.dat 2 1 [[DV.int .i64 (-1 : Int)], [DV.int .i64 (-1 : Int)], [DV.int .i64 (-1 : Int)]])),
 ((9 : Nat),
 some (Ob.dat 2 1 [[DV.int .i64 (-1 : Int)], [DV.int .i64 (-1 : Int)], [DV.int .i64 (-1 : Int)]])),
 ((10 : Nat),
 some (Ob.dat 2 1 [[DV.int .i64 (-1 : Int)], [DV.int .i64 (-1 : Int)], [DV.int .i64 (-1 : Int)]])),
 ((11 : Nat),
 some
 (Ob.mix (24 : TypeId) (1 : Nat)
 [[AV.aref 8 1 0 (3 : Nat)], [AV.aref 9 1 0 (3 : Nat)],
 [AV.aref 10 1 0 (3 : Nat)]])),
 ((12 : Nat),
 some (Ob.dat 2 1 [[DV.int .i64 (-1 : Int)], [DV.int .i64 (-1 : Int)], [DV.int .i64 (-1 : Int)]])),
 ((13 : Nat), some (Ob.dat 2 1 [[DV.int .i64 0], [DV.int .i64 0], [DV.int .i64 0]])),
 ((14 : Nat), some (Ob.dat 2 1 [[DV.int .i64 0], [DV.int .i64 0], [DV.int .i64 0]])),
 ((15 : Nat), some (Ob.dat 2 1 [[DV.int .i64 0], [DV.int .i64 0], [DV.int .i64 0]])),
 ((16 : Nat),
 some
 (Ob.mix (24 : TypeId) (1 : Nat)
 [[AV.aref 13 1 0 (3 : Nat)], [AV.aref 14 1 0 (3 : Nat)],
 [AV.aref 15 1 0 (3 : Nat)]]))])
 else none
 else
 k Ex.nrm
 (St.of
 [(0, AV.d (DV.sla false 1 h)), (1, AV.d (DV.int .i64 w)), (4, AV.ptr 4 4 0 0),
 ((5 : Nat), AV.ptr 5 4 0 0), (6, AV.d (DV.int .i64 (IntKind.i64.wrap (3 : Int))))]
 [((37 : Nat),
 some
 (Ob.dat 47 3
 [[DV.int .i64 a0, DV.int .i64 0, DV.int .i64 0],
 [DV.int .i64 a1, DV.int .i64 0, DV.int .i64 0],
 [DV.int .i64 0, DV.int .i64 0, DV.int .i64 0]])),
 ((50037 : Nat), none), (4, some (Ob.dat 26 4 [[DV.nilsl, DV.nilsl, DV.nilsl, DV.nilsl]])),
 ((5 : Nat),
 some
 (Ob.mix (26 : TypeId) (4 : Nat)
 [[AV.aref (alt (50037 : Nat) (37 : Nat)) (3 : Nat) (0 : Nat) (3 : Nat), AV.aref 11 1 0 (3 : Nat),
 AV.aref 12 1 0 (3 : Nat), AV.aref 16 1 0 (3 : Nat)]])),
 ((8 : Nat), some (Ob.dat 2 1 [[DV.int .i64 (-1 : Int)], [DV.int .i64 (-1 : Int)], [DV.int .i64 (-1 : Int)]])),
 ((9 : Nat), some (Ob.dat 2 1 [[DV.int .i64 (-1 : Int)], [DV.int .i64 (-1 : Int)], [DV.int .i64 (-1 : Int)]])),
 ((10 : Nat), some (Ob.dat 2 1 [[DV.int .i64 (-1 : Int)], [DV.int .i64 (-1 : Int)], [DV.int .i64 (-1 : Int)]])),
 ((11 : Nat),
 some
 (Ob.mix (24 : TypeId) (1 : Nat)
 [[AV.aref 8 1 0 (3 : Nat)], [AV.aref 9 1 0 (3 : Nat)],
 [AV.aref 10 1 0 (3 : Nat)]])),
 ((12 : Nat), some (Ob.dat 2 1 [[DV.int .i64 (-1 : Int)], [DV.int .i64 (-1 : Int)], [DV.int .i64 (-1 : Int)]])),
 ((13 : Nat), some (Ob.dat 2 1 [[DV.int .i64 0], [DV.int .i64 0], [DV.int .i64 0]])),
 ((14 : Nat), some (Ob.dat 2 1 [[DV.int .i64 0], [DV.int .i64 0], [DV.int .i64 0]])),
 ((15 : Nat), some (Ob.dat 2 1 [[DV.int .i64 0], [DV.int .i64 0], [DV.int .i64 0]])),
 ((16 : Nat),
 some
 (Ob.mix (24 : TypeId) (1 : Nat)
 [[AV.aref 13 1 0 (3 : Nat)], [AV.aref 14 1 0 (3 : Nat)],
 [AV.aref 15 1 0 (3 : Nat)]]))])) :=
  (show LB tab noSp lD L (n+4) h190 c19l0 (S190 h w (.aref 50037 3 0 2) 2 none (some (.dat 47 3 [[.int .i64 a0, .int .i64 0, .int .i64 0], [.int .i64 a1, .int .i64 0, .int .i64 0]]))) k =
 (cond (decide ((2 : Int) < (↑h.length : Int)))
 (lookK (h[(2 : Nat)]?)
 fun e1 =>
 (cond (okRow [DV.int .i64 0] e1)
 (k .nrm (St.of [(0, (.d (.sla false 1 h))), (1, (.d (.int .i64 w))), (4, (.ptr 4 4 0 0)), (5, (.ptr 5 4 0 0)), (6, (.d (.int .i64 (IntKind.i64.wrap (3 : Int)))))] [(37, (.some (.dat 47 3 [[(.int .i64 a0), (.int .i64 ((0 : Int))), (.int .i64 ((0 : Int)))], [(.int .i64 a1), (.int .i64 ((0 : Int))), (.int .i64 ((0 : Int)))], [(.int .i64 (IntKind.i64.wrap (↑(BitVec.ofInt IntKind.i64.bits (cellA e1 0).toI &&& BitVec.ofInt IntKind.i64.bits (63 : Int)).toNat : Int))), (.int .i64 ((0 : Int))), (.int .i64 ((0 : Int)))]]))), (50037, .none), (4, (.some (.dat 26 4 [[.nilsl, .nilsl, .nilsl, .nilsl]]))), (5, (.some (.mix 26 4 [[(.aref (alt 50037 37) 3 0 3), (.aref 11 1 0 3), (.aref 12 1 0 3), (.aref 16 1 0 3)]]))), (8, (.some (.dat 2 1 [[(.int .i64 ((-1 : Int)))], [(.int .i64 ((-1 : Int)))], [(.int .i64 ((-1 : Int)))]]))), (9, (.some (.dat 2 1 [[(.int .i64 ((-1 : Int)))], [(.int .i64 ((-1 : Int)))], [(.int .i64 ((-1 : Int)))]]))), (10, (.some (.dat 2 1 [[(.int .i64 ((-1 : Int)))], [(.int .i64 ((-1 : Int)))], [(.int .i64 ((-1 : Int)))]]))), (11, (.some (.mix 24 1 [[(.aref 8 1 0 3)], [(.aref 9 1 0 3)], [(.aref 10 1 0 3)]]))), (12, (.some (.dat 2 1 [[(.int .i64 ((-1 : Int)))], [(.int .i64 ((-1 : Int)))], [(.int .i64 ((-1 : Int)))]]))), (13, (.some (.dat 2 1 [[(.int .i64 ((0 : Int)))], [(.int .i64 ((0 : Int)))], [(.int .i64 ((0 : Int)))]]))), (14, (.some (.dat 2 1 [[(.int .i64 ((0 : Int)))], [(.int .i64 ((0 : Int)))], [(.int .i64 ((0 : Int)))]]))), (15, (.some (.dat 2 1 [[(.int .i64 ((0 : Int)))], [(.int .i64 ((0 : Int)))], [(.int .i64 ((0 : Int)))]]))), (16, (.some (.mix 24 1 [[(.aref 13 1 0 3)], [(.aref 14 1 0 3)], [(.aref 15 1 0 3)]])))]))
 none))
 (k .nrm (St.of [(0, (.d (.sla false 1 h))), (1, (.d (.int .i64 w))), (4, (.ptr 4 4 0 0)), (5, (.ptr 5 4 0 0)), (6, (.d (.int .i64 (IntKind.i64.wrap (3 : Int)))))] [(37, (.some (.dat 47 3 [[(.int .i64 a0), (.int .i64 ((0 : Int))), (.int .i64 ((0 : Int)))], [(.int .i64 a1), (.int .i64 ((0 : Int))), (.int .i64 ((0 : Int)))], [(.int .i64 ((0 : Int))), (.int .i64 ((0 : Int))), (.int .i64 ((0 : Int)))]]))), (50037, .none), (4, (.some (.dat 26 4 [[.nilsl, .nilsl, .nilsl, .nilsl]]))), (5, (.some (.mix 26 4 [[(.aref (alt 50037 37) 3 0 3), (.aref 11 1 0 3), (.aref 12 1 0 3), (.aref 16 1 0 3)]]))), (8, (.some (.dat 2 1 [[(.int .i64 ((-1 : Int)))], [(.int .i64 ((-1 : Int)))], [(.int .i64 ((-1 : Int)))]]))), (9, (.some (.dat 2 1 [[(.int .i64 ((-1 : Int)))], [(.int .i64 ((-1 : Int)))], [(.int .i64 ((-1 : Int)))]]))), (10, (.some (.dat 2 1 [[(.int .i64 ((-1 : Int)))], [(.int .i64 ((-1 : Int)))], [(.int .i64 ((-1 : Int)))]]))), (11, (.some (.mix 24 1 [[(.aref 8 1 0 3)], [(.aref 9 1 0 3)], [(.aref 10 1 0 3)]]))), (12, (.some (.dat 2 1 [[(.int .i64 ((-1 : Int)))], [(.int .i64 ((-1 : Int)))], [(.int .i64 ((-1 : Int)))]]))), (13, (.some (.dat 2 1 [[(.int .i64 ((0 : Int)))], [(.int .i64 ((0 : Int)))], [(.int .i64 ((0 : Int)))]]))), (14, (.some (.dat 2 1 [[(.int .i64 ((0 : Int)))], [(.int .i64 ((0 : Int)))], [(.int .i64 ((0 : Int)))]]))), (15, (.some (.dat 2 1 [[(.int .i64 ((0 : Int)))], [(.int .i64 ((0 : Int)))], [(.int .i64 ((0 : Int)))]]))), (16, (.some (.mix 24 1 [[(.aref 13 1 0 3)], [(.aref 14 1 0 3)], [(.aref 15 1 0 3)]])))]))) from by kernel_rfl).trans (by first | rfl | (simp only [decide_true, decide_false, eq_self, and_true, true_and, and_self, cond_true, cond_false, Nat.le_refl, Int.le_refl, Option.getD_some, Option.getD_none, Int.toNat_natCast, List.take_length, List.drop_zero, Nat.zero_add, List.nil_append, List.all_nil, List.append_nil, Bool.true_and, Bool.and_true, rowsA_sla, rowsA_sl, rowsA_nil, minus_zero, nat_le_cast, nat_nonneg, Option.isSome_some, Option.isSome_none, Bool.false_eq_true, false_and, and_false, if_true, if_false, implies_true, Int.toNat_zero, Bool.not_false, Bool.not_true, bne_self_eq_false]; done) | (simp only [decide_true, decide_false, eq_self, and_true, true_and, and_self, cond_true, cond_false, Nat.le_refl, Int.le_refl, Option.getD_some, Option.getD_none, Int.toNat_natCast, List.take_length, List.drop_zero, Nat.zero_add, List.nil_append, List.all_nil, List.append_nil, Bool.true_and, Bool.and_true, rowsA_sla, rowsA_sl, rowsA_nil, minus_zero, nat_le_cast, nat_nonneg, Option.isSome_some, Option.isSome_none, Bool.false_eq_true, false_and, and_false, if_true, if_false, implies_true, Int.toNat_zero, Bool.not_false, Bool.not_true, bne_self_eq_false]; rfl))
theorem s190d (L n : Nat) (h : List (List DV)) (w a0 a1 a2 : Int) (k : Kont) : LB tab noSp lD L (n+4) h190 c19l0 (S190 h w (.aref 37 3 0 3) 3 (some (.dat 47 3 [[.int .i64 a0, .int .i64 0, .int .i64 0], [.int .i64 a1, .int .i64 0, .int .i64 0], [.int .i64 a2, .int .i64 0, .int .i64 0]])) none) k =
   (k (Ex.ex (0 : Nat))
 (St.of
 [(1, AV.d (DV.int .i64 w)), (4, AV.ptr 4 4 0 0),
 ((5 : Nat), AV.ptr 5 4 0 0)]
 [((37 : Nat),
 some
 (Ob.dat 47 3
 [[DV.int .i64 a0, DV.int .i64 0, DV.int .i64 0],
 [DV.int .i64 a1, DV.int .i64 0, DV.int .i64 0],
 [DV.int .i64 a2, DV.int .i64 0, DV.int .i64 0]])),
 ((50037 : Nat), none), (4, some (Ob.dat 26 4 [[DV.nilsl, DV.nilsl, DV.nilsl, DV.nilsl]])),
 ((5 : Nat),
 some
 (Ob.mix (26 : TypeId) (4 : Nat)
 [[AV.aref 37 3 0 (3 : Nat), AV.aref 11 1 0 (3 : Nat),
 AV.aref 12 1 0 (3 : Nat), AV.aref 16 1 0 (3 : Nat)]])),
 ((8 : Nat), some (Ob.dat 2 1 [[DV.int .i64 (-1 : Int)], [DV.int .i64 (-1 : Int)], [DV.int .i64 (-1 : Int)]])),
 ((9 : Nat), some (Ob.dat 2 1 [[DV.int .i64 (-1 : Int)], [DV.int .i64 (-1 : Int)], [DV.int .i64 (-1 : Int)]])),
 ((10 : Nat), some (Ob.dat 2 1 [[DV.int .i64 (-1 : Int)], [DV.int .i64 (-1 : Int)], [DV.int .i64 (-1 : Int)]])),
 ((11 : Nat),
 some
 (Ob.mix (24 : TypeId) (1 : Nat)
 [[AV.aref 8 1 0 (3 : Nat)], [AV.aref 9 1 0 (3 : Nat)],
 [AV.aref 10 1 0 (3 : Nat)]])),
 ((12 : Nat), some (Ob.dat 2 1 [[DV.int .i64 (-1 : Int)], [DV.int .i64 (-1 : Int)], [DV.int .i64 (-1 : Int)]])),
 ((13 : Nat), some (Ob.dat 2 1 [[DV.int .i64 0], [DV.int .i64 0], [DV.int .i64 0]])),
 ((14 : Nat), some (Ob.dat 2 1 [[DV.int .i64 0], [DV.int .i64 0], [DV.int .i64 0]])),
 ((15 : Nat), some (Ob.dat 2 1 [[DV.int .i64 0], [DV.int .i64 0], [DV.int .i64 0]])),
 ((16 : Nat),
 some
 (Ob.mix (24 : TypeId) (1 : Nat)
 [[AV.aref 13 1 0 (3 : Nat)], [AV.aref 14 1 0 (3 : Nat)],
 [AV.aref 15 1 0 (3 : Nat)]]))])) :=
  (show LB tab noSp lD L (n+4) h190 c19l0 (S190 h w (.aref 37 3 0 3) 3 (some (.dat 47 3 [[.int .i64 a0, .int .i64 0, .int .i64 0], [.int .i64 a1, .int .i64 0, .int .i64 0], [.int .i64 a2, .int .i64 0, .int .i64 0]])) none) k =
 (k (.ex 0) (St.of [(1, (.d (.int .i64 w))), (4, (.ptr 4 4 0 0)), (5, (.ptr 5 4 0 0))] [(37, (.some (.dat 47 3 [[(.int .i64 a0), (.int .i64 ((0 : Int))), (.int .i64 ((0 : Int)))], [(.int .i64 a1), (.int .i64 ((0 : Int))), (.int .i64 ((0 : Int)))], [(.int .i64 a2), (.int .i64 ((0 : Int))), (.int .i64 ((0 : Int)))]]))), (50037, .none), (4, (.some (.dat 26 4 [[.nilsl, .nilsl, .nilsl, .nilsl]]))), (5, (.some (.mix 26 4 [[(.aref 37 3 0 3), (.aref 11 1 0 3), (.aref 12 1 0 3), (.aref 16 1 0 3)]]))), (8, (.some (.dat 2 1 [[(.int .i64 ((-1 : Int)))], [(.int .i64 ((-1 : Int)))], [(.int .i64 ((-1 : Int)))]]))), (9, (.some (.dat 2 1 [[(.int .i64 ((-1 : Int)))], [(.int .i64 ((-1 : Int)))], [(.int .i64 ((-1 : Int)))]]))), (10, (.some (.dat 2 1 [[(.int .i64 ((-1 : Int)))], [(.int .i64 ((-1 : Int)))], [(.int .i64 ((-1 : Int)))]]))), (11, (.some (.mix 24 1 [[(.aref 8 1 0 3)], [(.aref 9 1 0 3)], [(.aref 10 1 0 3)]]))), (12, (.some (.dat 2 1 [[(.int .i64 ((-1 : Int)))], [(.int .i64 ((-1 : Int)))], [(.int .i64 ((-1 : Int)))]]))), (13, (.some (.dat 2 1 [[(.int .i64 ((0 : Int)))], [(.int .i64 ((0 : Int)))], [(.int .i64 ((0 : Int)))]]))), (14, (.some (.dat 2 1 [[(.int .i64 ((0 : Int)))], [(.int .i64 ((0 : Int)))], [(.int .i64 ((0 : Int)))]]))), (15, (.some (.dat 2 1 [[(.int .i64 ((0 : Int)))], [(.int .i64 ((0 : Int)))], [(.int .i64 ((0 : Int)))]]))), (16, (.some (.mix 24 1 [[(.aref 13 1 0 3)], [(.aref 14 1 0 3)], [(.aref 15 1 0 3)]])))])) from by kernel_rfl).trans (by first | rfl | (simp only [decide_true, decide_false, eq_self, and_true, true_and, and_self, cond_true, cond_false, Nat.le_refl, Int.le_refl, Option.getD_some, Option.getD_none, Int.toNat_natCast, List.take_length, List.drop_zero, Nat.zero_add, List.nil_append, List.all_nil, List.append_nil, Bool.true_and, Bool.and_true, rowsA_sla, rowsA_sl, rowsA_nil, minus_zero, nat_le_cast, nat_nonneg, Option.isSome_some, Option.isSome_none, Bool.false_eq_true, false_and, and_false, if_true, if_false, implies_true, Int.toNat_zero, Bool.not_false, Bool.not_true, bne_self_eq_false]; done) | (simp only [decide_true, decide_false, eq_self, and_true, true_and, and_self, cond_true, cond_false, Nat.le_refl, Int.le_refl, Option.getD_some, Option.getD_none, Int.toNat_natCast, List.take_length, List.drop_zero, Nat.zero_add, List.nil_append, List.all_nil, List.append_nil, Bool.true_and, Bool.and_true, rowsA_sla, rowsA_sl, rowsA_nil, minus_zero, nat_le_cast, nat_nonneg, Option.isSome_some, Option.isSome_none, Bool.false_eq_true, false_and, and_false, if_true, if_false, implies_true, Int.toNat_zero, Bool.not_false, Bool.not_true, bne_self_eq_false]; rfl))
theorem t19 (n : Nat) (h : List (List DV)) (w : Int) : FK tab noSp lD 20 (n+8) 19 [.sla false 1 h, .int .i64 w] =
   (need
 (LoopOk (LB tab noSp lD (20 : Nat) (n + (8 : Nat)) h190 c19l0)
 (St.of
 [(0, AV.d (DV.sla false 1 h)), (1, AV.d (DV.int .i64 w)), (4, AV.ptr 4 4 0 0),
 ((5 : Nat), AV.ptr 5 4 0 0), (6, AV.d (DV.int .i64 0))]
 [(37, none), (50037, none), (4, some (Ob.dat 26 4 [[DV.nilsl, DV.nilsl, DV.nilsl, DV.nilsl]])),
 ((5 : Nat),
 some
 (Ob.mix (26 : TypeId) (4 : Nat)
 [[AV.d DV.nilsl, AV.aref 11 1 0 (3 : Nat), AV.aref 12 1 0 (3 : Nat),
 AV.aref 16 1 0 (3 : Nat)]])),
 ((8 : Nat), some (Ob.dat 2 1 [[DV.int .i64 (-1 : Int)], [DV.int .i64 (-1 : Int)], [DV.int .i64 (-1 : Int)]])),
 ((9 : Nat), some (Ob.dat 2 1 [[DV.int .i64 (-1 : Int)], [DV.int .i64 (-1 : Int)], [DV.int .i64 (-1 : Int)]])),
 ((10 : Nat), some (Ob.dat 2 1 [[DV.int .i64 (-1 : Int)], [DV.int .i64 (-1 : Int)], [DV.int .i64 (-1 : Int)]])),
 ((11 : Nat),
 some
 (Ob.mix (24 : TypeId) (1 : Nat)
 [[AV.aref 8 1 0 (3 : Nat)], [AV.aref 9 1 0 (3 : Nat)],
 [AV.aref 10 1 0 (3 : Nat)]])),
 ((12 : Nat), some (Ob.dat 2 1 [[DV.int .i64 (-1 : Int)], [DV.int .i64 (-1 : Int)], [DV.int .i64 (-1 : Int)]])),
 ((13 : Nat), some (Ob.dat 2 1 [[DV.int .i64 0], [DV.int .i64 0], [DV.int .i64 0]])),
 ((14 : Nat), some (Ob.dat 2 1 [[DV.int .i64 0], [DV.int .i64 0], [DV.int .i64 0]])),
 ((15 : Nat), some (Ob.dat 2 1 [[DV.int .i64 0], [DV.int .i64 0], [DV.int .i64 0]])),
 ((16 : Nat),
 some
 (Ob.mix (24 : TypeId) (1 : Nat)
 [[AV.aref 13 1 0 (3 : Nat)], [AV.aref 14 1 0 (3 : Nat)],
 [AV.aref 15 1 0 (3 : Nat)]]))])
 (Ex.ex (0 : Nat),
 St.of
 [(1, AV.d (DV.int .i64 w)), (4, AV.ptr 4 4 0 0),
 ((5 : Nat), AV.ptr 5 4 0 0)]
 [((37 : Nat),
 some
 (Ob.dat 47 3
 [[DV.int .i64 (hvI h (0 : Nat)), DV.int .i64 0, DV.int .i64 0],
 [DV.int .i64 (hvI h (1 : Nat)), DV.int .i64 0, DV.int .i64 0],
 [DV.int .i64 (hvI h (2 : Nat)), DV.int .i64 0, DV.int .i64 0]])),
 ((50037 : Nat), none), (4, some (Ob.dat 26 4 [[DV.nilsl, DV.nilsl, DV.nilsl, DV.nilsl]])),
 ((5 : Nat),
 some
 (Ob.mix (26 : TypeId) (4 : Nat)
 [[AV.aref 37 3 0 (3 : Nat), AV.aref 11 1 0 (3 : Nat),
 AV.aref 12 1 0 (3 : Nat), AV.aref 16 1 0 (3 : Nat)]])),
 ((8 : Nat), some (Ob.dat 2 1 [[DV.int .i64 (-1 : Int)], [DV.int .i64 (-1 : Int)], [DV.int .i64 (-1 : Int)]])),
 ((9 : Nat), some (Ob.dat 2 1 [[DV.int .i64 (-1 : Int)], [DV.int .i64 (-1 : Int)], [DV.int .i64 (-1 : Int)]])),
 ((10 : Nat),
 some (Ob.dat 2 1 [[DV.int .i64 (-1 : Int)], [DV.int .i64 (-1 : Int)], [DV.int .i64 (-1 : Int)]])),
 ((11 : Nat),
 some
 (Ob.mix (24 : TypeId) (1 : Nat)
 [[AV.aref 8 1 0 (3 : Nat)], [AV.aref 9 1 0 (3 : Nat)],
 [AV.aref 10 1 0 (3 : Nat)]])),
 ((12 : Nat),
 some (Ob.dat 2 1 [[DV.int .i64 (-1 : Int)], [DV.int .i64 (-1 : Int)], [DV.int .i64 (-1 : Int)]])),
 ((13 : Nat), some (Ob.dat 2 1 [[DV.int .i64 0], [DV.int .i64 0], [DV.int .i64 0]])),
 ((14 : Nat), some (Ob.dat 2 1 [[DV.int .i64 0], [DV.int .i64 0], [DV.int .i64 0]])),
 ((15 : Nat), some (Ob.dat 2 1 [[DV.int .i64 0], [DV.int .i64 0], [DV.int .i64 0]])),
 ((16 : Nat),
 some
 (Ob.mix (24 : TypeId) (1 : Nat)
 [[AV.aref 13 1 0 (3 : Nat)], [AV.aref 14 1 0 (3 : Nat)],
 [AV.aref 15 1 0 (3 : Nat)]]))]))
 (bif IntKind.i64.wrap (↑(BitVec.ofInt IntKind.i64.bits w &&& BitVec.ofInt IntKind.i64.bits (1 : Int)).toNat : Int) == (1 : Int) then
 bif IntKind.i64.wrap (↑(BitVec.ofInt IntKind.i64.bits w &&& BitVec.ofInt IntKind.i64.bits (2 : Int)).toNat : Int) == (2 : Int) then
 bif IntKind.i64.wrap (↑(BitVec.ofInt IntKind.i64.bits w &&& BitVec.ofInt IntKind.i64.bits (4 : Int)).toNat : Int) == (4 : Int) then
 some
 (DV.agg
 [DV.sl (SK.own (47 : TypeId)) (3 : Nat)
 [[DV.int .i64 (hvI h (0 : Nat)), DV.int .i64 7, DV.int .i64 0],
 [DV.int .i64 (hvI h (1 : Nat)), DV.int .i64 0, DV.int .i64 5],
 [DV.int .i64 (hvI h (2 : Nat)), DV.int .i64 3, DV.int .i64 9]],
 DV.sl (SK.own2 (24 : TypeId)) (1 : Nat)
 [[DV.sl (SK.own (2 : TypeId)) (1 : Nat) [[DV.int .i64 (-1 : Int)], [DV.int .i64 6], [DV.int .i64 (-1 : Int)]]],
 [DV.sl (SK.own (2 : TypeId)) (1 : Nat) [[DV.int .i64 (-1 : Int)], [DV.int .i64 (-1 : Int)], [DV.int .i64 0]]],
 [DV.sl (SK.own (2 : TypeId)) (1 : Nat) [[DV.int .i64 (-1 : Int)], [DV.int .i64 (-1 : Int)], [DV.int .i64 (-1 : Int)]]]],
 DV.sl (SK.own (2 : TypeId)) (1 : Nat) [[DV.int .i64 8], [DV.int .i64 (-1 : Int)], [DV.int .i64 4]],
 DV.sl (SK.own2 (24 : TypeId)) (1 : Nat)
 [[DV.sl (SK.own (2 : TypeId)) (1 : Nat) [[DV.int .i64 0], [DV.int .i64 3], [DV.int .i64 0]]],
 [DV.sl (SK.own (2 : TypeId)) (1 : Nat) [[DV.int .i64 (-3 : Int)], [DV.int .i64 0], [DV.int .i64 0]]],
 [DV.sl (SK.own (2 : TypeId)) (1 : Nat) [[DV.int .i64 0], [DV.int .i64 0], [DV.int .i64 0]]]]])
 else
 some
 (DV.agg
 [DV.sl (SK.own (47 : TypeId)) (3 : Nat)
 [[DV.int .i64 (hvI h (0 : Nat)), DV.int .i64 7, DV.int .i64 0],
 [DV.int .i64 (hvI h (1 : Nat)), DV.int .i64 0, DV.int .i64 5],
 [DV.int .i64 (hvI h (2 : Nat)), DV.int .i64 3, DV.int .i64 0]],
 DV.sl (SK.own2 (24 : TypeId)) (1 : Nat)
 [[DV.sl (SK.own (2 : TypeId)) (1 : Nat) [[DV.int .i64 (-1 : Int)], [DV.int .i64 6], [DV.int .i64 (-1 : Int)]]],
 [DV.sl (SK.own (2 : TypeId)) (1 : Nat) [[DV.int .i64 (-1 : Int)], [DV.int .i64 (-1 : Int)], [DV.int .i64 0]]],
 [DV.sl (SK.own (2 : TypeId)) (1 : Nat) [[DV.int .i64 (-1 : Int)], [DV.int .i64 (-1 : Int)], [DV.int .i64 (-1 : Int)]]]],
 DV.sl (SK.own (2 : TypeId)) (1 : Nat) [[DV.int .i64 (-1 : Int)], [DV.int .i64 (-1 : Int)], [DV.int .i64 4]],
 DV.sl (SK.own2 (24 : TypeId)) (1 : Nat)
 [[DV.sl (SK.own (2 : TypeId)) (1 : Nat) [[DV.int .i64 0], [DV.int .i64 0], [DV.int .i64 0]]],
 [DV.sl (SK.own (2 : TypeId)) (1 : Nat) [[DV.int .i64 0], [DV.int .i64 0], [DV.int .i64 0]]],
 [DV.sl (SK.own (2 : TypeId)) (1 : Nat) [[DV.int .i64 0], [DV.int .i64 0], [DV.int .i64 0]]]]])
 else
 bif IntKind.i64.wrap (↑(BitVec.ofInt IntKind.i64.bits w &&& BitVec.ofInt IntKind.i64.bits (4 : Int)).toNat : Int) == (4 : Int) then
 some
 (DV.agg
 [DV.sl (SK.own (47 : TypeId)) (3 : Nat)
 [[DV.int .i64 (hvI h (0 : Nat)), DV.int .i64 7, DV.int .i64 0],
 [DV.int .i64 (hvI h (1 : Nat)), DV.int .i64 0, DV.int .i64 5],
 [DV.int .i64 (hvI h (2 : Nat)), DV.int .i64 3, DV.int .i64 9]],
 DV.sl (SK.own2 (24 : TypeId)) (1 : Nat)
 [[DV.sl (SK.own (2 : TypeId)) (1 : Nat) [[DV.int .i64 (-1 : Int)], [DV.int .i64 (-1 : Int)], [DV.int .i64 (-1 : Int)]]],
 [DV.sl (SK.own (2 : TypeId)) (1 : Nat) [[DV.int .i64 (-1 : Int)], [DV.int .i64 (-1 : Int)], [DV.int .i64 (-1 : Int)]]],
 [DV.sl (SK.own (2 : TypeId)) (1 : Nat) [[DV.int .i64 (-1 : Int)], [DV.int .i64 (-1 : Int)], [DV.int .i64 (-1 : Int)]]]],
 DV.sl (SK.own (2 : TypeId)) (1 : Nat) [[DV.int .i64 8], [DV.int .i64 (-1 : Int)], [DV.int .i64 (-1 : Int)]],
 DV.sl (SK.own2 (24 : TypeId)) (1 : Nat)
 [[DV.sl (SK.own (2 : TypeId)) (1 : Nat) [[DV.int .i64 0], [DV.int .i64 3], [DV.int .i64 0]]],
 [DV.sl (SK.own (2 : TypeId)) (1 : Nat) [[DV.int .i64 (-3 : Int)], [DV.int .i64 0], [DV.int .i64 0]]],
 [DV.sl (SK.own (2 : TypeId)) (1 : Nat) [[DV.int .i64 0], [DV.int .i64 0], [DV.int .i64 0]]]]])
 else
 some
 (DV.agg
 [DV.sl (SK.own (47 : TypeId)) (3 : Nat)
 [[DV.int .i64 (hvI h (0 : Nat)), DV.int .i64 7, DV.int .i64 0],
 [DV.int .i64 (hvI h (1 : Nat)), DV.int .i64 0, DV.int .i64 5],
 [DV.int .i64 (hvI h (2 : Nat)), DV.int .i64 3, DV.int .i64 0]],
 DV.sl (SK.own2 (24 : TypeId)) (1 : Nat)
 [[DV.sl (SK.own (2 : TypeId)) (1 : Nat) [[DV.int .i64 (-1 : Int)], [DV.int .i64 (-1 : Int)], [DV.int .i64 (-1 : Int)]]],
 [DV.sl (SK.own (2 : TypeId)) (1 : Nat) [[DV.int .i64 (-1 : Int)], [DV.int .i64 (-1 : Int)], [DV.int .i64 (-1 : Int)]]],
 [DV.sl (SK.own (2 : TypeId)) (1 : Nat) [[DV.int .i64 (-1 : Int)], [DV.int .i64 (-1 : Int)], [DV.int .i64 (-1 : Int)]]]],
 DV.sl (SK.own (2 : TypeId)) (1 : Nat) [[DV.int .i64 (-1 : Int)], [DV.int .i64 (-1 : Int)], [DV.int .i64 (-1 : Int)]],
 DV.sl (SK.own2 (24 : TypeId)) (1 : Nat)
 [[DV.sl (SK.own (2 : TypeId)) (1 : Nat) [[DV.int .i64 0], [DV.int .i64 0], [DV.int .i64 0]]],
 [DV.sl (SK.own (2 : TypeId)) (1 : Nat) [[DV.int .i64 0], [DV.int .i64 0], [DV.int .i64 0]]],
 [DV.sl (SK.own (2 : TypeId)) (1 : Nat) [[DV.int .i64 0], [DV.int .i64 0], [DV.int .i64 0]]]]])
 else
 bif IntKind.i64.wrap (↑(BitVec.ofInt IntKind.i64.bits w &&& BitVec.ofInt IntKind.i64.bits (2 : Int)).toNat : Int) == (2 : Int) then
 bif IntKind.i64.wrap (↑(BitVec.ofInt IntKind.i64.bits w &&& BitVec.ofInt IntKind.i64.bits (4 : Int)).toNat : Int) == (4 : Int) then
 some
 (DV.agg
 [DV.sl (SK.own (47 : TypeId)) (3 : Nat)
 [[DV.int .i64 (hvI h (0 : Nat)), DV.int .i64 0, DV.int .i64 0],
 [DV.int .i64 (hvI h (1 : Nat)), DV.int .i64 0, DV.int .i64 0],
 [DV.int .i64 (hvI h (2 : Nat)), DV.int .i64 0, DV.int .i64 9]],
 DV.sl (SK.own2 (24 : TypeId)) (1 : Nat)
 [[DV.sl (SK.own (2 : TypeId)) (1 : Nat) [[DV.int .i64 (-1 : Int)], [DV.int .i64 6], [DV.int .i64 (-1 : Int)]]],
 [DV.sl (SK.own (2 : TypeId)) (1 : Nat) [[DV.int .i64 (-1 : Int)], [DV.int .i64 (-1 : Int)], [DV.int .i64 0]]],
 [DV.sl (SK.own (2 : TypeId)) (1 : Nat) [[DV.int .i64 (-1 : Int)], [DV.int .i64 (-1 : Int)], [DV.int .i64 (-1 : Int)]]]],
 DV.sl (SK.own (2 : TypeId)) (1 : Nat) [[DV.int .i64 8], [DV.int .i64 (-1 : Int)], [DV.int .i64 4]],
 DV.sl (SK.own2 (24 : TypeId)) (1 : Nat)
 [[DV.sl (SK.own (2 : TypeId)) (1 : Nat) [[DV.int .i64 0], [DV.int .i64 3], [DV.int .i64 0]]],
 [DV.sl (SK.own (2 : TypeId)) (1 : Nat) [[DV.int .i64 (-3 : Int)], [DV.int .i64 0], [DV.int .i64 0]]],
 [DV.sl (SK.own (2 : TypeId)) (1 : Nat) [[DV.int .i64 0], [DV.int .i64 0], [DV.int .i64 0]]]]])
 else
 some
 (DV.agg
 [DV.sl (SK.own (47 : TypeId)) (3 : Nat)
 [[DV.int .i64 (hvI h (0 : Nat)), DV.int .i64 0, DV.int .i64 0],
 [DV.int .i64 (hvI h (1 : Nat)), DV.int .i64 0, DV.int .i64 0],
 [DV.int .i64 (hvI h (2 : Nat)), DV.int .i64 0, DV.int .i64 0]],
 DV.sl (SK.own2 (24 : TypeId)) (1 : Nat)
 [[DV.sl (SK.own (2 : TypeId)) (1 : Nat) [[DV.int .i64 (-1 : Int)], [DV.int .i64 6], [DV.int .i64 (-1 : Int)]]],
 [DV.sl (SK.own (2 : TypeId)) (1 : Nat) [[DV.int .i64 (-1 : Int)], [DV.int .i64 (-1 : Int)], [DV.int .i64 0]]],
 [DV.sl (SK.own (2 : TypeId)) (1 : Nat) [[DV.int .i64 (-1 : Int)], [DV.int .i64 (-1 : Int)], [DV.int .i64 (-1 : Int)]]]],
 DV.sl (SK.own (2 : TypeId)) (1 : Nat) [[DV.int .i64 (-1 : Int)], [DV.int .i64 (-1 : Int)], [DV.int .i64 4]],
 DV.sl (SK.own2 (24 : TypeId)) (1 : Nat)
 [[DV.sl (SK.own (2 : TypeId)) (1 : Nat) [[DV.int .i64 0], [DV.int .i64 0], [DV.int .i64 0]]],
 [DV.sl (SK.own (2 : TypeId)) (1 : Nat) [[DV.int .i64 0], [DV.int .i64 0], [DV.int .i64 0]]],
 [DV.sl (SK.own (2 : TypeId)) (1 : Nat) [[DV.int .i64 0], [DV.int .i64 0], [DV.int .i64 0]]]]])
 else
 bif IntKind.i64.wrap (↑(BitVec.ofInt IntKind.i64.bits w &&& BitVec.ofInt IntKind.i64.bits (4 : Int)).toNat : Int) == (4 : Int) then
 some
 (DV.agg
 [DV.sl (SK.own (47 : TypeId)) (3 : Nat)
 [[DV.int .i64 (hvI h (0 : Nat)), DV.int .i64 0, DV.int .i64 0],
 [DV.int .i64 (hvI h (1 : Nat)), DV.int .i64 0, DV.int .i64 0],
 [DV.int .i64 (hvI h (2 : Nat)), DV.int .i64 0, DV.int .i64 9]],
 DV.sl (SK.own2 (24 : TypeId)) (1 : Nat)
 [[DV.sl (SK.own (2 : TypeId)) (1 : Nat) [[DV.int .i64 (-1 : Int)], [DV.int .i64 (-1 : Int)], [DV.int .i64 (-1 : Int)]]],
 [DV.sl (SK.own (2 : TypeId)) (1 : Nat) [[DV.int .i64 (-1 : Int)], [DV.int .i64 (-1 : Int)], [DV.int .i64 (-1 : Int)]]],
 [DV.sl (SK.own (2 : TypeId)) (1 : Nat) [[DV.int .i64 (-1 : Int)], [DV.int .i64 (-1 : Int)], [DV.int .i64 (-1 : Int)]]]],
 DV.sl (SK.own (2 : TypeId)) (1 : Nat) [[DV.int .i64 8], [DV.int .i64 (-1 : Int)], [DV.int .i64 (-1 : Int)]],
 DV.sl (SK.own2 (24 : TypeId)) (1 : Nat)
 [[DV.sl (SK.own (2 : TypeId)) (1 : Nat) [[DV.int .i64 0], [DV.int .i64 3], [DV.int .i64 0]]],
 [DV.sl (SK.own (2 : TypeId)) (1 : Nat) [[DV.int .i64 (-3 : Int)], [DV.int .i64 0], [DV.int .i64 0]]],
 [DV.sl (SK.own (2 : TypeId)) (1 : Nat) [[DV.int .i64 0], [DV.int .i64 0], [DV.int .i64 0]]]]])
 else
 some
 (DV.agg
 [DV.sl (SK.own (47 : TypeId)) (3 : Nat)
 [[DV.int .i64 (hvI h (0 : Nat)), DV.int .i64 0, DV.int .i64 0],
 [DV.int .i64 (hvI h (1 : Nat)), DV.int .i64 0, DV.int .i64 0],
 [DV.int .i64 (hvI h (2 : Nat)), DV.int .i64 0, DV.int .i64 0]],
 DV.sl (SK.own2 (24 : TypeId)) (1 : Nat)
 [[DV.sl (SK.own (2 : TypeId)) (1 : Nat) [[DV.int .i64 (-1 : Int)], [DV.int .i64 (-1 : Int)], [DV.int .i64 (-1 : Int)]]],
 [DV.sl (SK.own (2 : TypeId)) (1 : Nat) [[DV.int .i64 (-1 : Int)], [DV.int .i64 (-1 : Int)], [DV.int .i64 (-1 : Int)]]],
 [DV.sl (SK.own (2 : TypeId)) (1 : Nat) [[DV.int .i64 (-1 : Int)], [DV.int .i64 (-1 : Int)], [DV.int .i64 (-1 : Int)]]]],
 DV.sl (SK.own (2 : TypeId)) (1 : Nat) [[DV.int .i64 (-1 : Int)], [DV.int .i64 (-1 : Int)], [DV.int .i64 (-1 : Int)]],
 DV.sl (SK.own2 (24 : TypeId)) (1 : Nat)
 [[DV.sl (SK.own (2 : TypeId)) (1 : Nat) [[DV.int .i64 0], [DV.int .i64 0], [DV.int .i64 0]]],
 [DV.sl (SK.own (2 : TypeId)) (1 : Nat) [[DV.int .i64 0], [DV.int .i64 0], [DV.int .i64 0]]],
 [DV.sl (SK.own (2 : TypeId)) (1 : Nat) [[DV.int .i64 0], [DV.int .i64 0], [DV.int .i64 0]]]]]))) :=
  (show FK tab noSp lD 20 (n+8) 19 [.sla false 1 h, .int .i64 w] =
 (need (LoopOk (LB tab noSp lD ((20 : Nat)) (n + (8 : Nat)) h190 c19l0) (St.of [(0, (.d (.sla false 1 h))), (1, (.d (.int .i64 w))), (4, (.ptr 4 4 0 0)), (5, (.ptr 5 4 0 0)), (6, (.d (.int .i64 ((0 : Int)))))] [(37, .none), (50037, .none), (4, (.some (.dat 26 4 [[.nilsl, .nilsl, .nilsl, .nilsl]]))), (5, (.some (.mix 26 4 [[(.d .nilsl), (.aref 11 1 0 3), (.aref 12 1 0 3), (.aref 16 1 0 3)]]))), (8, (.some (.dat 2 1 [[(.int .i64 ((-1 : Int)))], [(.int .i64 ((-1 : Int)))], [(.int .i64 ((-1 : Int)))]]))), (9, (.some (.dat 2 1 [[(.int .i64 ((-1 : Int)))], [(.int .i64 ((-1 : Int)))], [(.int .i64 ((-1 : Int)))]]))), (10, (.some (.dat 2 1 [[(.int .i64 ((-1 : Int)))], [(.int .i64 ((-1 : Int)))], [(.int .i64 ((-1 : Int)))]]))), (11, (.some (.mix 24 1 [[(.aref 8 1 0 3)], [(.aref 9 1 0 3)], [(.aref 10 1 0 3)]]))), (12, (.some (.dat 2 1 [[(.int .i64 ((-1 : Int)))], [(.int .i64 ((-1 : Int)))], [(.int .i64 ((-1 : Int)))]]))), (13, (.some (.dat 2 1 [[(.int .i64 ((0 : Int)))], [(.int .i64 ((0 : Int)))], [(.int .i64 ((0 : Int)))]]))), (14, (.some (.dat 2 1 [[(.int .i64 ((0 : Int)))], [(.int .i64 ((0 : Int)))], [(.int .i64 ((0 : Int)))]]))), (15, (.some (.dat 2 1 [[(.int .i64 ((0 : Int)))], [(.int .i64 ((0 : Int)))], [(.int .i64 ((0 : Int)))]]))), (16, (.some (.mix 24 1 [[(.aref 13 1 0 3)], [(.aref 14 1 0 3)], [(.aref 15 1 0 3)]])))]) ((.ex 0), (St.of [(1, (.d (.int .i64 w))), (4, (.ptr 4 4 0 0)), (5, (.ptr 5 4 0 0))] [(37, (.some (.dat 47 3 [[(.int .i64 (hvI h (0 : Nat))), (.int .i64 ((0 : Int))), (.int .i64 ((0 : Int)))], [(.int .i64 (hvI h (1 : Nat))), (.int .i64 ((0 : Int))), (.int .i64 ((0 : Int)))], [(.int .i64 (hvI h (2 : Nat))), (.int .i64 ((0 : Int))), (.int .i64 ((0 : Int)))]]))), (50037, .none), (4, (.some (.dat 26 4 [[.nilsl, .nilsl, .nilsl, .nilsl]]))), (5, (.some (.mix 26 4 [[(.aref 37 3 0 3), (.aref 11 1 0 3), (.aref 12 1 0 3), (.aref 16 1 0 3)]]))), (8, (.some (.dat 2 1 [[(.int .i64 ((-1 : Int)))], [(.int .i64 ((-1 : Int)))], [(.int .i64 ((-1 : Int)))]]))), (9, (.some (.dat 2 1 [[(.int .i64 ((-1 : Int)))], [(.int .i64 ((-1 : Int)))], [(.int .i64 ((-1 : Int)))]]))), (10, (.some (.dat 2 1 [[(.int .i64 ((-1 : Int)))], [(.int .i64 ((-1 : Int)))], [(.int .i64 ((-1 : Int)))]]))), (11, (.some (.mix 24 1 [[(.aref 8 1 0 3)], [(.aref 9 1 0 3)], [(.aref 10 1 0 3)]]))), (12, (.some (.dat 2 1 [[(.int .i64 ((-1 : Int)))], [(.int .i64 ((-1 : Int)))], [(.int .i64 ((-1 : Int)))]]))), (13, (.some (.dat 2 1 [[(.int .i64 ((0 : Int)))], [(.int .i64 ((0 : Int)))], [(.int .i64 ((0 : Int)))]]))), (14, (.some (.dat 2 1 [[(.int .i64 ((0 : Int)))], [(.int .i64 ((0 : Int)))], [(.int .i64 ((0 : Int)))]]))), (15, (.some (.dat 2 1 [[(.int .i64 ((0 : Int)))], [(.int .i64 ((0 : Int)))], [(.int .i64 ((0 : Int)))]]))), (16, (.some (.mix 24 1 [[(.aref 13 1 0 3)], [(.aref 14 1 0 3)], [(.aref 15 1 0 3)]])))])))
 (cond (IntKind.i64.wrap (↑(BitVec.ofInt IntKind.i64.bits w &&& BitVec.ofInt IntKind.i64.bits (1 : Int)).toNat : Int) == (1 : Int))
 (cond (IntKind.i64.wrap (↑(BitVec.ofInt IntKind.i64.bits w &&& BitVec.ofInt IntKind.i64.bits (2 : Int)).toNat : Int) == (2 : Int))
 (cond (IntKind.i64.wrap (↑(BitVec.ofInt IntKind.i64.bits w &&& BitVec.ofInt IntKind.i64.bits (4 : Int)).toNat : Int) == (4 : Int))
 (some (.agg [(.sl (SK.own (47 : TypeId)) 3 [[(.int .i64 (hvI h (0 : Nat))), (.int .i64 ((7 : Int))), (.int .i64 ((0 : Int)))], [(.int .i64 (hvI h (1 : Nat))), (.int .i64 ((0 : Int))), (.int .i64 ((5 : Int)))], [(.int .i64 (hvI h (2 : Nat))), (.int .i64 ((3 : Int))), (.int .i64 ((9 : Int)))]]), (.sl (SK.own2 (24 : TypeId)) 1 [[(.sl (SK.own (2 : TypeId)) 1 [[(.int .i64 ((-1 : Int)))], [(.int .i64 ((6 : Int)))], [(.int .i64 ((-1 : Int)))]])], [(.sl (SK.own (2 : TypeId)) 1 [[(.int .i64 ((-1 : Int)))], [(.int .i64 ((-1 : Int)))], [(.int .i64 ((0 : Int)))]])], [(.sl (SK.own (2 : TypeId)) 1 [[(.int .i64 ((-1 : Int)))], [(.int .i64 ((-1 : Int)))], [(.int .i64 ((-1 : Int)))]])]]), (.sl (SK.own (2 : TypeId)) 1 [[(.int .i64 ((8 : Int)))], [(.int .i64 ((-1 : Int)))], [(.int .i64 ((4 : Int)))]]), (.sl (SK.own2 (24 : TypeId)) 1 [[(.sl (SK.own (2 : TypeId)) 1 [[(.int .i64 ((0 : Int)))], [(.int .i64 ((3 : Int)))], [(.int .i64 ((0 : Int)))]])], [(.sl (SK.own (2 : TypeId)) 1 [[(.int .i64 ((-3 : Int)))], [(.int .i64 ((0 : Int)))], [(.int .i64 ((0 : Int)))]])], [(.sl (SK.own (2 : TypeId)) 1 [[(.int .i64 ((0 : Int)))], [(.int .i64 ((0 : Int)))], [(.int .i64 ((0 : Int)))]])]])]))
 (some (.agg [(.sl (SK.own (47 : TypeId)) 3 [[(.int .i64 (hvI h (0 : Nat))), (.int .i64 ((7 : Int))), (.int .i64 ((0 : Int)))], [(.int .i64 (hvI h (1 : Nat))), (.int .i64 ((0 : Int))), (.int .i64 ((5 : Int)))], [(.int .i64 (hvI h (2 : Nat))), (.int .i64 ((3 : Int))), (.int .i64 ((0 : Int)))]]), (.sl (SK.own2 (24 : TypeId)) 1 [[(.sl (SK.own (2 : TypeId)) 1 [[(.int .i64 ((-1 : Int)))], [(.int .i64 ((6 : Int)))], [(.int .i64 ((-1 : Int)))]])], [(.sl (SK.own (2 : TypeId)) 1 [[(.int .i64 ((-1 : Int)))], [(.int .i64 ((-1 : Int)))], [(.int .i64 ((0 : Int)))]])], [(.sl (SK.own (2 : TypeId)) 1 [[(.int .i64 ((-1 : Int)))], [(.int .i64 ((-1 : Int)))], [(.int .i64 ((-1 : Int)))]])]]), (.sl (SK.own (2 : TypeId)) 1 [[(.int .i64 ((-1 : Int)))], [(.int .i64 ((-1 : Int)))], [(.int .i64 ((4 : Int)))]]), (.sl (SK.own2 (24 : TypeId)) 1 [[(.sl (SK.own (2 : TypeId)) 1 [[(.int .i64 ((0 : Int)))], [(.int .i64 ((0 : Int)))], [(.int .i64 ((0 : Int)))]])], [(.sl (SK.own (2 : TypeId)) 1 [[(.int .i64 ((0 : Int)))], [(.int .i64 ((0 : Int)))], [(.int .i64 ((0 : Int)))]])], [(.sl (SK.own (2 : TypeId)) 1 [[(.int .i64 ((0 : Int)))], [(.int .i64 ((0 : Int)))], [(.int .i64 ((0 : Int)))]])]])])))
 (cond (IntKind.i64.wrap (↑(BitVec.ofInt IntKind.i64.bits w &&& BitVec.ofInt IntKind.i64.bits (4 : Int)).toNat : Int) == (4 : Int))
 (some (.agg [(.sl (SK.own (47 : TypeId)) 3 [[(.int .i64 (hvI h (0 : Nat))), (.int .i64 ((7 : Int))), (.int .i64 ((0 : Int)))], [(.int .i64 (hvI h (1 : Nat))), (.int .i64 ((0 : Int))), (.int .i64 ((5 : Int)))], [(.int .i64 (hvI h (2 : Nat))), (.int .i64 ((3 : Int))), (.int .i64 ((9 : Int)))]]), (.sl (SK.own2 (24 : TypeId)) 1 [[(.sl (SK.own (2 : TypeId)) 1 [[(.int .i64 ((-1 : Int)))], [(.int .i64 ((-1 : Int)))], [(.int .i64 ((-1 : Int)))]])], [(.sl (SK.own (2 : TypeId)) 1 [[(.int .i64 ((-1 : Int)))], [(.int .i64 ((-1 : Int)))], [(.int .i64 ((-1 : Int)))]])], [(.sl (SK.own (2 : TypeId)) 1 [[(.int .i64 ((-1 : Int)))], [(.int .i64 ((-1 : Int)))], [(.int .i64 ((-1 : Int)))]])]]), (.sl (SK.own (2 : TypeId)) 1 [[(.int .i64 ((8 : Int)))], [(.int .i64 ((-1 : Int)))], [(.int .i64 ((-1 : Int)))]]), (.sl (SK.own2 (24 : TypeId)) 1 [[(.sl (SK.own (2 : TypeId)) 1 [[(.int .i64 ((0 : Int)))], [(.int .i64 ((3 : Int)))], [(.int .i64 ((0 : Int)))]])], [(.sl (SK.own (2 : TypeId)) 1 [[(.int .i64 ((-3 : Int)))], [(.int .i64 ((0 : Int)))], [(.int .i64 ((0 : Int)))]])], [(.sl (SK.own (2 : TypeId)) 1 [[(.int .i64 ((0 : Int)))], [(.int .i64 ((0 : Int)))], [(.int .i64 ((0 : Int)))]])]])]))
 (some (.agg [(.sl (SK.own (47 : TypeId)) 3 [[(.int .i64 (hvI h (0 : Nat))), (.int .i64 ((7 : Int))), (.int .i64 ((0 : Int)))], [(.int .i64 (hvI h (1 : Nat))), (.int .i64 ((0 : Int))), (.int .i64 ((5 : Int)))], [(.int .i64 (hvI h (2 : Nat))), (.int .i64 ((3 : Int))), (.int .i64 ((0 : Int)))]]), (.sl (SK.own2 (24 : TypeId)) 1 [[(.sl (SK.own (2 : TypeId)) 1 [[(.int .i64 ((-1 : Int)))], [(.int .i64 ((-1 : Int)))], [(.int .i64 ((-1 : Int)))]])], [(.sl (SK.own (2 : TypeId)) 1 [[(.int .i64 ((-1 : Int)))], [(.int .i64 ((-1 : Int)))], [(.int .i64 ((-1 : Int)))]])], [(.sl (SK.own (2 : TypeId)) 1 [[(.int .i64 ((-1 : Int)))], [(.int .i64 ((-1 : Int)))], [(.int .i64 ((-1 : Int)))]])]]), (.sl (SK.own (2 : TypeId)) 1 [[(.int .i64 ((-1 : Int)))], [(.int .i64 ((-1 : Int)))], [(.int .i64 ((-1 : Int)))]]), (.sl (SK.own2 (24 : TypeId)) 1 [[(.sl (SK.own (2 : TypeId)) 1 [[(.int .i64 ((0 : Int)))], [(.int .i64 ((0 : Int)))], [(.int .i64 ((0 : Int)))]])], [(.sl (SK.own (2 : TypeId)) 1 [[(.int .i64 ((0 : Int)))], [(.int .i64 ((0 : Int)))], [(.int .i64 ((0 : Int)))]])], [(.sl (SK.own (2 : TypeId)) 1 [[(.int .i64 ((0 : Int)))], [(.int .i64 ((0 : Int)))], [(.int .i64 ((0 : Int)))]])]])]))))
 (cond (IntKind.i64.wrap (↑(BitVec.ofInt IntKind.i64.bits w &&& BitVec.ofInt IntKind.i64.bits (2 : Int)).toNat : Int) == (2 : Int))
 (cond (IntKind.i64.wrap (↑(BitVec.ofInt IntKind.i64.bits w &&& BitVec.ofInt IntKind.i64.bits (4 : Int)).toNat : Int) == (4 : Int))
 (some (.agg [(.sl (SK.own (47 : TypeId)) 3 [[(.int .i64 (hvI h (0 : Nat))), (.int .i64 ((0 : Int))), (.int .i64 ((0 : Int)))], [(.int .i64 (hvI h (1 : Nat))), (.int .i64 ((0 : Int))), (.int .i64 ((0 : Int)))], [(.int .i64 (hvI h (2 : Nat))), (.int .i64 ((0 : Int))), (.int .i64 ((9 : Int)))]]), (.sl (SK.own2 (24 : TypeId)) 1 [[(.sl (SK.own (2 : TypeId)) 1 [[(.int .i64 ((-1 : Int)))], [(.int .i64 ((6 : Int)))], [(.int .i64 ((-1 : Int)))]])], [(.sl (SK.own (2 : TypeId)) 1 [[(.int .i64 ((-1 : Int)))], [(.int .i64 ((-1 : Int)))], [(.int .i64 ((0 : Int)))]])], [(.sl (SK.own (2 : TypeId)) 1 [[(.int .i64 ((-1 : Int)))], [(.int .i64 ((-1 : Int)))], [(.int .i64 ((-1 : Int)))]])]]), (.sl (SK.own (2 : TypeId)) 1 [[(.int .i64 ((8 : Int)))], [(.int .i64 ((-1 : Int)))], [(.int .i64 ((4 : Int)))]]), (.sl (SK.own2 (24 : TypeId)) 1 [[(.sl (SK.own (2 : TypeId)) 1 [[(.int .i64 ((0 : Int)))], [(.int .i64 ((3 : Int)))], [(.int .i64 ((0 : Int)))]])], [(.sl (SK.own (2 : TypeId)) 1 [[(.int .i64 ((-3 : Int)))], [(.int .i64 ((0 : Int)))], [(.int .i64 ((0 : Int)))]])], [(.sl (SK.own (2 : TypeId)) 1 [[(.int .i64 ((0 : Int)))], [(.int .i64 ((0 : Int)))], [(.int .i64 ((0 : Int)))]])]])]))
 (some (.agg [(.sl (SK.own (47 : TypeId)) 3 [[(.int .i64 (hvI h (0 : Nat))), (.int .i64 ((0 : Int))), (.int .i64 ((0 : Int)))], [(.int .i64 (hvI h (1 : Nat))), (.int .i64 ((0 : Int))), (.int .i64 ((0 : Int)))], [(.int .i64 (hvI h (2 : Nat))), (.int .i64 ((0 : Int))), (.int .i64 ((0 : Int)))]]), (.sl (SK.own2 (24 : TypeId)) 1 [[(.sl (SK.own (2 : TypeId)) 1 [[(.int .i64 ((-1 : Int)))], [(.int .i64 ((6 : Int)))], [(.int .i64 ((-1 : Int)))]])], [(.sl (SK.own (2 : TypeId)) 1 [[(.int .i64 ((-1 : Int)))], [(.int .i64 ((-1 : Int)))], [(.int .i64 ((0 : Int)))]])], [(.sl (SK.own (2 : TypeId)) 1 [[(.int .i64 ((-1 : Int)))], [(.int .i64 ((-1 : Int)))], [(.int .i64 ((-1 : Int)))]])]]), (.sl (SK.own (2 : TypeId)) 1 [[(.int .i64 ((-1 : Int)))], [(.int .i64 ((-1 : Int)))], [(.int .i64 ((4 : Int)))]]), (.sl (SK.own2 (24 : TypeId)) 1 [[(.sl (SK.own (2 : TypeId)) 1 [[(.int .i64 ((0 : Int)))], [(.int .i64 ((0 : Int)))], [(.int .i64 ((0 : Int)))]])], [(.sl (SK.own (2 : TypeId)) 1 [[(.int .i64 ((0 : Int)))], [(.int .i64 ((0 : Int)))], [(.int .i64 ((0 : Int)))]])], [(.sl (SK.own (2 : TypeId)) 1 [[(.int .i64 ((0 : Int)))], [(.int .i64 ((0 : Int)))], [(.int .i64 ((0 : Int)))]])]])])))
 (cond (IntKind.i64.wrap (↑(BitVec.ofInt IntKind.i64.bits w &&& BitVec.ofInt IntKind.i64.bits (4 : Int)).toNat : Int) == (4 : Int))
 (some (.agg [(.sl (SK.own (47 : TypeId)) 3 [[(.int .i64 (hvI h (0 : Nat))), (.int .i64 ((0 : Int))), (.int .i64 ((0 : Int)))], [(.int .i64 (hvI h (1 : Nat))), (.int .i64 ((0 : Int))), (.int .i64 ((0 : Int)))], [(.int .i64 (hvI h (2 : Nat))), (.int .i64 ((0 : Int))), (.int .i64 ((9 : Int)))]]), (.sl (SK.own2 (24 : TypeId)) 1 [[(.sl (SK.own (2 : TypeId)) 1 [[(.int .i64 ((-1 : Int)))], [(.int .i64 ((-1 : Int)))], [(.int .i64 ((-1 : Int)))]])], [(.sl (SK.own (2 : TypeId)) 1 [[(.int .i64 ((-1 : Int)))], [(.int .i64 ((-1 : Int)))], [(.int .i64 ((-1 : Int)))]])], [(.sl (SK.own (2 : TypeId)) 1 [[(.int .i64 ((-1 : Int)))], [(.int .i64 ((-1 : Int)))], [(.int .i64 ((-1 : Int)))]])]]), (.sl (SK.own (2 : TypeId)) 1 [[(.int .i64 ((8 : Int)))], [(.int .i64 ((-1 : Int)))], [(.int .i64 ((-1 : Int)))]]), (.sl (SK.own2 (24 : TypeId)) 1 [[(.sl (SK.own (2 : TypeId)) 1 [[(.int .i64 ((0 : Int)))], [(.int .i64 ((3 : Int)))], [(.int .i64 ((0 : Int)))]])], [(.sl (SK.own (2 : TypeId)) 1 [[(.int .i64 ((-3 : Int)))], [(.int .i64 ((0 : Int)))], [(.int .i64 ((0 : Int)))]])], [(.sl (SK.own (2 : TypeId)) 1 [[(.int .i64 ((0 : Int)))], [(.int .i64 ((0 : Int)))], [(.int .i64 ((0 : Int)))]])]])]))
 (some (.agg [(.sl (SK.own (47 : TypeId)) 3 [[(.int .i64 (hvI h (0 : Nat))), (.int .i64 ((0 : Int))), (.int .i64 ((0 : Int)))], [(.int .i64 (hvI h (1 : Nat))), (.int .i64 ((0 : Int))), (.int .i64 ((0 : Int)))], [(.int .i64 (hvI h (2 : Nat))), (.int .i64 ((0 : Int))), (.int .i64 ((0 : Int)))]]), (.sl (SK.own2 (24 : TypeId)) 1 [[(.sl (SK.own (2 : TypeId)) 1 [[(.int .i64 ((-1 : Int)))], [(.int .i64 ((-1 : Int)))], [(.int .i64 ((-1 : Int)))]])], [(.sl (SK.own (2 : TypeId)) 1 [[(.int .i64 ((-1 : Int)))], [(.int .i64 ((-1 : Int)))], [(.int .i64 ((-1 : Int)))]])], [(.sl (SK.own (2 : TypeId)) 1 [[(.int .i64 ((-1 : Int)))], [(.int .i64 ((-1 : Int)))], [(.int .i64 ((-1 : Int)))]])]]), (.sl (SK.own (2 : TypeId)) 1 [[(.int .i64 ((-1 : Int)))], [(.int .i64 ((-1 : Int)))], [(.int .i64 ((-1 : Int)))]]), (.sl (SK.own2 (24 : TypeId)) 1 [[(.sl (SK.own (2 : TypeId)) 1 [[(.int .i64 ((0 : Int)))], [(.int .i64 ((0 : Int)))], [(.int .i64 ((0 : Int)))]])], [(.sl (SK.own (2 : TypeId)) 1 [[(.int .i64 ((0 : Int)))], [(.int .i64 ((0 : Int)))], [(.int .i64 ((0 : Int)))]])], [(.sl (SK.own (2 : TypeId)) 1 [[(.int .i64 ((0 : Int)))], [(.int .i64 ((0 : Int)))], [(.int .i64 ((0 : Int)))]])]])])))))) from by kernel_rfl).trans (by first | rfl | (simp only [decide_true, decide_false, eq_self, and_true, true_and, and_self, cond_true, cond_false, Nat.le_refl, Int.le_refl, Option.getD_some, Option.getD_none, Int.toNat_natCast, List.take_length, List.drop_zero, Nat.zero_add, List.nil_append, List.all_nil, List.append_nil, Bool.true_and, Bool.and_true, rowsA_sla, rowsA_sl, rowsA_nil, minus_zero, nat_le_cast, nat_nonneg, Option.isSome_some, Option.isSome_none, Bool.false_eq_true, false_and, and_false, if_true, if_false, implies_true, Int.toNat_zero, Bool.not_false, Bool.not_true, bne_self_eq_false]; done) | (simp only [decide_true, decide_false, eq_self, and_true, true_and, and_self, cond_true, cond_false, Nat.le_refl, Int.le_refl, Option.getD_some, Option.getD_none, Int.toNat_natCast, List.take_length, List.drop_zero, Nat.zero_add, List.nil_append, List.all_nil, List.append_nil, Bool.true_and, Bool.and_true, rowsA_sla, rowsA_sl, rowsA_nil, minus_zero, nat_le_cast, nat_nonneg, Option.isSome_some, Option.isSome_none, Bool.false_eq_true, false_and, and_false, if_true, if_false, implies_true, Int.toNat_zero, Bool.not_false, Bool.not_true, bne_self_eq_false]; rfl))
end Go.Proofs.Ythjcfiekdejdgaa
