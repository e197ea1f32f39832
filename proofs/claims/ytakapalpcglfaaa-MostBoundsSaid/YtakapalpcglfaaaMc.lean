/- What is known of books, by the runs of the document's functions: does one that sends one payment fall short. No condition. -/
import Derived.Test.YtakapalpcglfaaaMb
namespace Go.Proofs.Ytakapalpcglfaaa
open Go Go.Proofs Go.RowKit Vm
set_option linter.unusedVariables false
set_option linter.unusedSimpArgs false
def senI (a1 a2 a3 i j : Int) : Int := cond (a1 == i) (cond (a2 == j) a3 0) 0
def senS : FSpec where
  D ds := ∃ a0 a1 a2 a3 a4 a5 a6 i j, ds = [.sl .ro 7 [[.int .i64 a0, .int .i64 a1, .int .i64 a2, .int .i64 a3, .int .i64 a4, .int .i64 a5, .int .i64 a6]], .int .i64 i, .int .i64 j] ∧ is64 a3
  val ds := match ds with | [.sl _ _ [[_, .int _ a1, .int _ a2, .int _ a3, _, _, _]], .int _ i, .int _ j] => some (.int .i64 (senI a1 a2 a3 i j)) | _ => none
noncomputable def spJ : FuncId → Option FSpec := spAdd 40 netS (spAdd 41 senS (spAdd 20 keptS noSp))
def bilB (bs qs : List (List DV)) (i t : Nat) (a : Int) : Bool := at2 bs i t != -1 && decide (at2 qs i t + a > at2 bs i t)
def bcI (ac : List (List DV)) (f : Nat) : Int := aci ac f 0 + aci ac f 1
/-- does one fall short? -/
def shB (ac bs ms qs : List (List DV)) (f t : Nat) (a c : Int) : Bool := bilB bs qs f t a || (decide (bcI ac f - a < 0) || ((c == 3 && decide (bcI ac f - a < aci ac f 2)) || (at1 ms f != -1 && decide (sumR (rw qs f) + a > at1 ms f))))
def mayB (n f t a c : Int) : Bool := bif bif bif bif bif bif bif bif decide (f ≥ (0 : Int)) then decide (f < n) else false then decide (t ≥ (0 : Int)) else false then decide (t < n) else false then f != t else false then decide (a ≥ (1 : Int)) else false then decide (a ≤ (1099511627776 : Int)) else false then decide (c ≥ (1 : Int)) else false then decide (c ≤ (3 : Int)) else false
def S380 (b : List DV) (p : List DV) (i : Int) (plain spent n0 net k : Int) : St := St.of [(1, .d (.sl .ro 7 [p])), (2, .d (.int .i64 i)), (3, .d (.rptr b 0)), (7, .d (.int .i64 plain)), (8, .d (.int .i64 spent)), (9, .d (.int .i64 n0)), (10, .d (.int .i64 net)), (11, .d (.int .i64 k))] [(16, none), (38, none), (3, none)]
def E380 (b : List DV) (i : Int) (plain spent n0 net : Int) : St := St.of [(2, .d (.int .i64 i)), (3, .d (.rptr b 0)), (7, .d (.int .i64 plain)), (8, .d (.int .i64 spent)), (9, .d (.int .i64 n0)), (10, .d (.int .i64 net))] [(16, none), (38, none), (3, none)]
def R380 : St := St.of [(6, .d (.bool true))] []
def l380 : LSpec := fun st => match st.env 1, st.env 2, st.env 3, st.env 7, st.env 8, st.env 9, st.env 10 with
  | .d (.sl _ _ [[_, .int _ a1, .int _ a2, .int _ a3, _, _, _]]), .d (.int _ i), .d (.rptr [.sla _ _ ac, .sla _ _ bs, .sla _ _ ms, .sla _ _ qs] _), .d (.int _ plain), .d (.int _ spent), .d (.int _ n0), .d (.int _ net) =>
    .br (bilB bs qs i.toNat a2.toNat a3) (.one .ret R380) (.one (.ex 0) (E380 (bk ac bs ms qs) i plain spent (n0 - a3) (net + a3)))
  | _, _, _, _, _, _, _ => .no
def shoS : FSpec where
  D ds := ∃ ac bs ms qs a0 a1 a2 a3 a4 a5 a6 i, ds = [.agg (bk ac bs ms qs), .sl .ro 7 [[.int .i64 a0, .int .i64 a1, .int .i64 a2, .int .i64 a3, .int .i64 a4, .int .i64 a5, .int .i64 a6]], .int .i64 ((i : Nat) : Int)] ∧ BK ac bs ms qs ∧ i < ac.length ∧ mayB ac.length a1 a2 a3 a4 = true
  val ds := match ds with | [.agg [.sla _ _ ac, .sla _ _ bs, .sla _ _ ms, .sla _ _ qs], .sl _ _ [[_, .int _ f, .int _ t, .int _ a, .int _ c, _, _]], .int _ i] => some (.bool (cond (f == i) (shB ac bs ms qs f.toNat t.toNat a c) false)) | _ => none
noncomputable def spU : FuncId → Option FSpec := spAdd 38 shoS noSp
def S350 (b : List DV) (p : List DV) (v : AV) (i : Int) (o : List (Nat × Option Ob)) : St := St.of [(1, .d (.sl .ro 7 [p])), (2, .d (.rptr b 0)), (5, v), (6, .d (.int .i64 i))] (o ++ [(2, none)])
def l350 : LSpec := fun st => match st.env 1, st.env 2 with
  | .d (.sl _ _ [[_, .int _ f, .int _ t, .int _ a, .int _ c, _, _]]), .d (.rptr [.sla _ _ ac, .sla _ _ bs, .sla _ _ ms, .sla _ _ qs] _) =>
    .br (shB ac bs ms qs f.toNat t.toNat a c) (.one (.ex 0) (St.of [(5, .aref 21 1 0 1)] [(21, some (.dat 3 1 [[.int .i64 f]])), (50021, none)])) (.one (.ex 0) (St.of [(5, .d .nilsl)] [(21, none), (50021, none)]))
  | _, _ => .no
def lc (k : Nat) : Option LSpec := if k = 380 then some l380 else if k = 350 then some l350 else none
theorem s380 (L n : Nat) (ac bs ms qs : List (List DV)) (i j : Nat) (plain spent n0 net a0 a1 a2 a3 a4 a5 a6 : Int) (k : Kont) : LB tab spJ lc L (n+4) h380 c38l0 (S380 (bk ac bs ms qs) [.int .i64 a0, .int .i64 a1, .int .i64 a2, .int .i64 a3, .int .i64 a4, .int .i64 a5, .int .i64 a6] i plain spent n0 net j) k =
   (bif decide ((↑j : Int) < (↑ac.length : Int)) then
 need
 (senS.D
 [DV.sl SK.ro 7
 [[DV.int .i64 a0, DV.int .i64 a1, DV.int .i64 a2, DV.int .i64 a3, DV.int .i64 a4, DV.int .i64 a5, DV.int .i64 a6]], DV.int .i64 (↑i : Int), DV.int .i64 (↑j : Int)])
 (need
 (senS.D
 [DV.sl SK.ro 7
 [[DV.int .i64 a0, DV.int .i64 a1, DV.int .i64 a2, DV.int .i64 a3, DV.int .i64 a4, DV.int .i64 a5, DV.int .i64 a6]], DV.int .i64 (↑j : Int), DV.int .i64 (↑i : Int)])
 (need
 (senS.D
 [DV.sl SK.ro 7
 [[DV.int .i64 a0, DV.int .i64 a1, DV.int .i64 a2, DV.int .i64 a3, DV.int .i64 a4, DV.int .i64 a5, DV.int .i64 a6]], DV.int .i64 (↑i : Int), DV.int .i64 (↑j : Int)])
 (bif decide (senI a1 a2 a3 (↑i : Int) (↑j : Int) > (0 : Int)) then
 lookK bs[i]? fun (e5 : List DV) =>
 bif okRow [DV.nilsl] e5 then
 bif decide ((1 : Nat) = (cellA e5 0).slZ) then
 lookK (cellA e5 0).slR[j]? fun (e9 : List DV) =>
 bif okRow [DV.int .i64 0] e9 then
 bif (cellA e9 0).toI != (-1 : Int) then
 lookK qs[i]? fun (e13 : List DV) =>
 bif okRow [DV.nilsl] e13 then
 bif decide ((1 : Nat) = (cellA e13 0).slZ) then
 lookK (cellA e13 0).slR[j]? fun (e17 : List DV) =>
 bif okRow [DV.int .i64 0] e17 then
 lookK bs[i]? fun (e20 : List DV) =>
 bif okRow [DV.nilsl] e20 then
 bif decide ((1 : Nat) = (cellA e20 0).slZ) then
 lookK (cellA e20 0).slR[j]? fun (e24 : List DV) =>
 bif okRow [DV.int .i64 0] e24 then
 bif
 decide
 (IntKind.i64.wrap
 ((cellA e17 0).toI +
 IntKind.i64.wrap (senI a1 a2 a3 (↑i : Int) (↑j : Int) - senI a1 a2 a3 (↑j : Int) (↑i : Int))) >
 (cellA e24 0).toI) then
 k Ex.ret (St.of [(6, AV.d (DV.bool true))] [])
 else
 k Ex.nrm
 (St.of
 [((1 : Nat),
 AV.d
 (DV.sl SK.ro 7
 [[DV.int .i64 a0, DV.int .i64 a1, DV.int .i64 a2, DV.int .i64 a3, DV.int .i64 a4, DV.int .i64 a5, DV.int .i64 a6]])),
 ((2 : Nat), AV.d (DV.int .i64 (↑i : Int))),
 ((3 : Nat),
 AV.d
 (DV.rptr
 [DV.sla false 3 ac, DV.sla false 1 bs, DV.sla false 1 ms,
 DV.sla false 1 qs]
 (0 : Nat))),
 ((7 : Nat), AV.d (DV.int .i64 plain)), (8, AV.d (DV.int .i64 spent)),
 ((9 : Nat),
 AV.d
 (DV.int .i64
 (IntKind.i64.wrap
 (n0 -
 IntKind.i64.wrap
 (senI a1 a2 a3 (↑i : Int) (↑j : Int) - senI a1 a2 a3 (↑j : Int) (↑i : Int)))))),
 ((10 : Nat),
 AV.d
 (DV.int .i64
 (IntKind.i64.wrap
 (net +
 IntKind.i64.wrap
 (senI a1 a2 a3 (↑i : Int) (↑j : Int) - senI a1 a2 a3 (↑j : Int) (↑i : Int)))))),
 ((11 : Nat), AV.d (DV.int .i64 (IntKind.i64.wrap ((↑j : Int) + (1 : Int)))))]
 [(16, none), (38, none), (3, none)])
 else none
 else none
 else none
 else none
 else none
 else none
 else
 k Ex.nrm
 (St.of
 [((1 : Nat),
 AV.d
 (DV.sl SK.ro 7
 [[DV.int .i64 a0, DV.int .i64 a1, DV.int .i64 a2, DV.int .i64 a3, DV.int .i64 a4, DV.int .i64 a5, DV.int .i64 a6]])),
 ((2 : Nat), AV.d (DV.int .i64 (↑i : Int))),
 ((3 : Nat),
 AV.d
 (DV.rptr [DV.sla false 3 ac, DV.sla false 1 bs, DV.sla false 1 ms, DV.sla false 1 qs]
 (0 : Nat))),
 ((7 : Nat), AV.d (DV.int .i64 plain)), (8, AV.d (DV.int .i64 spent)),
 ((9 : Nat),
 AV.d
 (DV.int .i64
 (IntKind.i64.wrap
 (n0 - IntKind.i64.wrap (senI a1 a2 a3 (↑i : Int) (↑j : Int) - senI a1 a2 a3 (↑j : Int) (↑i : Int)))))),
 ((10 : Nat),
 AV.d
 (DV.int .i64
 (IntKind.i64.wrap
 (net + IntKind.i64.wrap (senI a1 a2 a3 (↑i : Int) (↑j : Int) - senI a1 a2 a3 (↑j : Int) (↑i : Int)))))),
 ((11 : Nat), AV.d (DV.int .i64 (IntKind.i64.wrap ((↑j : Int) + (1 : Int)))))]
 [(16, none), (38, none), (3, none)])
 else none
 else none
 else none
 else
 k Ex.nrm
 (St.of
 [((1 : Nat),
 AV.d
 (DV.sl SK.ro 7
 [[DV.int .i64 a0, DV.int .i64 a1, DV.int .i64 a2, DV.int .i64 a3, DV.int .i64 a4, DV.int .i64 a5, DV.int .i64 a6]])),
 ((2 : Nat), AV.d (DV.int .i64 (↑i : Int))),
 ((3 : Nat),
 AV.d (DV.rptr [DV.sla false 3 ac, DV.sla false 1 bs, DV.sla false 1 ms, DV.sla false 1 qs] (0 : Nat))),
 ((7 : Nat), AV.d (DV.int .i64 plain)), (8, AV.d (DV.int .i64 spent)),
 ((9 : Nat),
 AV.d
 (DV.int .i64
 (IntKind.i64.wrap (n0 - IntKind.i64.wrap (senI a1 a2 a3 (↑i : Int) (↑j : Int) - senI a1 a2 a3 (↑j : Int) (↑i : Int)))))),
 ((10 : Nat),
 AV.d
 (DV.int .i64
 (IntKind.i64.wrap (net + IntKind.i64.wrap (senI a1 a2 a3 (↑i : Int) (↑j : Int) - senI a1 a2 a3 (↑j : Int) (↑i : Int)))))),
 ((11 : Nat), AV.d (DV.int .i64 (IntKind.i64.wrap ((↑j : Int) + (1 : Int)))))]
 [(16, none), (38, none), (3, none)]))))
 else
 k (Ex.ex (0 : Nat))
 (St.of
 [(2, AV.d (DV.int .i64 (↑i : Int))),
 ((3 : Nat), AV.d (DV.rptr [DV.sla false 3 ac, DV.sla false 1 bs, DV.sla false 1 ms, DV.sla false 1 qs] (0 : Nat))),
 ((7 : Nat), AV.d (DV.int .i64 plain)), (8, AV.d (DV.int .i64 spent)), (9, AV.d (DV.int .i64 n0)),
 ((10 : Nat), AV.d (DV.int .i64 net))]
 [(16, none), (38, none), (3, none)])) :=
  (show LB tab spJ lc L (n+4) h380 c38l0 (S380 (bk ac bs ms qs) [.int .i64 a0, .int .i64 a1, .int .i64 a2, .int .i64 a3, .int .i64 a4, .int .i64 a5, .int .i64 a6] i plain spent n0 net j) k =
 (cond (decide ((↑j : Int) < (↑ac.length : Int)))
 (need (FSpec.D (senS) [(.sl (SK.ro) 7 [[(.int .i64 a0), (.int .i64 a1), (.int .i64 a2), (.int .i64 a3), (.int .i64 a4), (.int .i64 a5), (.int .i64 a6)]]), (.int .i64 ((↑i : Int))), (.int .i64 ((↑j : Int)))])
 (need (FSpec.D (senS) [(.sl (SK.ro) 7 [[(.int .i64 a0), (.int .i64 a1), (.int .i64 a2), (.int .i64 a3), (.int .i64 a4), (.int .i64 a5), (.int .i64 a6)]]), (.int .i64 ((↑j : Int))), (.int .i64 ((↑i : Int)))])
 (need (FSpec.D (senS) [(.sl (SK.ro) 7 [[(.int .i64 a0), (.int .i64 a1), (.int .i64 a2), (.int .i64 a3), (.int .i64 a4), (.int .i64 a5), (.int .i64 a6)]]), (.int .i64 ((↑i : Int))), (.int .i64 ((↑j : Int)))])
 (cond (decide (senI a1 a2 a3 (↑i : Int) (↑j : Int) > (0 : Int)))
 (lookK (bs[(↑i : Int).toNat]?)
 fun e5 =>
 (cond (okRow [DV.nilsl] e5)
 (cond (decide ((1 : Nat) = (cellA e5 0).slZ))
 (lookK ((cellA e5 0).slR[(↑j : Int).toNat]?)
 fun e9 =>
 (cond (okRow [DV.int .i64 0] e9)
 (cond ((cellA e9 0).toI != (-1 : Int))
 (lookK (qs[(↑i : Int).toNat]?)
 fun e13 =>
 (cond (okRow [DV.nilsl] e13)
 (cond (decide ((1 : Nat) = (cellA e13 0).slZ))
 (lookK ((cellA e13 0).slR[(↑j : Int).toNat]?)
 fun e17 =>
 (cond (okRow [DV.int .i64 0] e17)
 (lookK (bs[(↑i : Int).toNat]?)
 fun e20 =>
 (cond (okRow [DV.nilsl] e20)
 (cond (decide ((1 : Nat) = (cellA e20 0).slZ))
 (lookK ((cellA e20 0).slR[(↑j : Int).toNat]?)
 fun e24 =>
 (cond (okRow [DV.int .i64 0] e24)
 (cond (decide (IntKind.i64.wrap ((cellA e17 0).toI + IntKind.i64.wrap (senI a1 a2 a3 (↑i : Int) (↑j : Int) - senI a1 a2 a3 (↑j : Int) (↑i : Int))) > (cellA e24 0).toI))
 (k .ret (St.of [(6, (.d (.bool true)))] []))
 (k .nrm (St.of [(1, (.d (.sl (SK.ro) 7 [[(.int .i64 a0), (.int .i64 a1), (.int .i64 a2), (.int .i64 a3), (.int .i64 a4), (.int .i64 a5), (.int .i64 a6)]]))), (2, (.d (.int .i64 ((↑i : Int))))), (3, (.d (.rptr [(.sla false 3 ac), (.sla false 1 bs), (.sla false 1 ms), (.sla false 1 qs)] 0))), (7, (.d (.int .i64 plain))), (8, (.d (.int .i64 spent))), (9, (.d (.int .i64 (IntKind.i64.wrap (n0 - IntKind.i64.wrap (senI a1 a2 a3 (↑i : Int) (↑j : Int) - senI a1 a2 a3 (↑j : Int) (↑i : Int))))))), (10, (.d (.int .i64 (IntKind.i64.wrap (net + IntKind.i64.wrap (senI a1 a2 a3 (↑i : Int) (↑j : Int) - senI a1 a2 a3 (↑j : Int) (↑i : Int))))))), (11, (.d (.int .i64 (IntKind.i64.wrap ((↑j : Int) + (1 : Int))))))] [(16, .none), (38, .none), (3, .none)])))
 none))
 none)
 none))
 none))
 none)
 none))
 (k .nrm (St.of [(1, (.d (.sl (SK.ro) 7 [[(.int .i64 a0), (.int .i64 a1), (.int .i64 a2), (.int .i64 a3), (.int .i64 a4), (.int .i64 a5), (.int .i64 a6)]]))), (2, (.d (.int .i64 ((↑i : Int))))), (3, (.d (.rptr [(.sla false 3 ac), (.sla false 1 bs), (.sla false 1 ms), (.sla false 1 qs)] 0))), (7, (.d (.int .i64 plain))), (8, (.d (.int .i64 spent))), (9, (.d (.int .i64 (IntKind.i64.wrap (n0 - IntKind.i64.wrap (senI a1 a2 a3 (↑i : Int) (↑j : Int) - senI a1 a2 a3 (↑j : Int) (↑i : Int))))))), (10, (.d (.int .i64 (IntKind.i64.wrap (net + IntKind.i64.wrap (senI a1 a2 a3 (↑i : Int) (↑j : Int) - senI a1 a2 a3 (↑j : Int) (↑i : Int))))))), (11, (.d (.int .i64 (IntKind.i64.wrap ((↑j : Int) + (1 : Int))))))] [(16, .none), (38, .none), (3, .none)])))
 none))
 none)
 none))
 (k .nrm (St.of [(1, (.d (.sl (SK.ro) 7 [[(.int .i64 a0), (.int .i64 a1), (.int .i64 a2), (.int .i64 a3), (.int .i64 a4), (.int .i64 a5), (.int .i64 a6)]]))), (2, (.d (.int .i64 ((↑i : Int))))), (3, (.d (.rptr [(.sla false 3 ac), (.sla false 1 bs), (.sla false 1 ms), (.sla false 1 qs)] 0))), (7, (.d (.int .i64 plain))), (8, (.d (.int .i64 spent))), (9, (.d (.int .i64 (IntKind.i64.wrap (n0 - IntKind.i64.wrap (senI a1 a2 a3 (↑i : Int) (↑j : Int) - senI a1 a2 a3 (↑j : Int) (↑i : Int))))))), (10, (.d (.int .i64 (IntKind.i64.wrap (net + IntKind.i64.wrap (senI a1 a2 a3 (↑i : Int) (↑j : Int) - senI a1 a2 a3 (↑j : Int) (↑i : Int))))))), (11, (.d (.int .i64 (IntKind.i64.wrap ((↑j : Int) + (1 : Int))))))] [(16, .none), (38, .none), (3, .none)]))))))
 (k (.ex 0) (St.of [(2, (.d (.int .i64 ((↑i : Int))))), (3, (.d (.rptr [(.sla false 3 ac), (.sla false 1 bs), (.sla false 1 ms), (.sla false 1 qs)] 0))), (7, (.d (.int .i64 plain))), (8, (.d (.int .i64 spent))), (9, (.d (.int .i64 n0))), (10, (.d (.int .i64 net)))] [(16, .none), (38, .none), (3, .none)]))) from by kernel_rfl).trans (by first | rfl | (simp only [decide_true, decide_false, eq_self, and_true, true_and, and_self, cond_true, cond_false, Nat.le_refl, Int.le_refl, Option.getD_some, Option.getD_none, Int.toNat_natCast, List.take_length, List.drop_zero, Nat.zero_add, List.nil_append, List.all_nil, List.append_nil, Bool.true_and, Bool.and_true, rowsA_sla, rowsA_sl, rowsA_nil, minus_zero, nat_le_cast, nat_nonneg, Option.isSome_some, Option.isSome_none, Bool.false_eq_true, false_and, and_false, if_true, if_false, implies_true, Int.toNat_zero, Bool.not_false, Bool.not_true, bne_self_eq_false]; done) | (simp only [decide_true, decide_false, eq_self, and_true, true_and, and_self, cond_true, cond_false, Nat.le_refl, Int.le_refl, Option.getD_some, Option.getD_none, Int.toNat_natCast, List.take_length, List.drop_zero, Nat.zero_add, List.nil_append, List.all_nil, List.append_nil, Bool.true_and, Bool.and_true, rowsA_sla, rowsA_sl, rowsA_nil, minus_zero, nat_le_cast, nat_nonneg, Option.isSome_some, Option.isSome_none, Bool.false_eq_true, false_and, and_false, if_true, if_false, implies_true, Int.toNat_zero, Bool.not_false, Bool.not_true, bne_self_eq_false]; rfl))
theorem t41 (n : Nat) (i j a0 a1 a2 a3 a4 a5 a6 : Int) : FK tab noSp lc 20 (n+8) 41 [.sl .ro 7 [[.int .i64 a0, .int .i64 a1, .int .i64 a2, .int .i64 a3, .int .i64 a4, .int .i64 a5, .int .i64 a6]], .int .i64 i, .int .i64 j] =
   (bif a1 == i then bif a2 == j then some (DV.int .i64 (IntKind.i64.wrap ((0 : Int) + a3))) else some (DV.int .i64 0)
 else some (DV.int .i64 0)) :=
  (show FK tab noSp lc 20 (n+8) 41 [.sl .ro 7 [[.int .i64 a0, .int .i64 a1, .int .i64 a2, .int .i64 a3, .int .i64 a4, .int .i64 a5, .int .i64 a6]], .int .i64 i, .int .i64 j] =
 (cond (a1 == i)
 (cond (a2 == j)
 (some (.int .i64 (IntKind.i64.wrap ((0 : Int) + a3))))
 (some (.int .i64 ((0 : Int)))))
 (some (.int .i64 ((0 : Int))))) from by kernel_rfl).trans (by first | rfl | (simp only [decide_true, decide_false, eq_self, and_true, true_and, and_self, cond_true, cond_false, Nat.le_refl, Int.le_refl, Option.getD_some, Option.getD_none, Int.toNat_natCast, List.take_length, List.drop_zero, Nat.zero_add, List.nil_append, List.all_nil, List.append_nil, Bool.true_and, Bool.and_true, rowsA_sla, rowsA_sl, rowsA_nil, minus_zero, nat_le_cast, nat_nonneg, Option.isSome_some, Option.isSome_none, Bool.false_eq_true, false_and, and_false, if_true, if_false, implies_true, Int.toNat_zero, Bool.not_false, Bool.not_true, bne_self_eq_false]; done) | (simp only [decide_true, decide_false, eq_self, and_true, true_and, and_self, cond_true, cond_false, Nat.le_refl, Int.le_refl, Option.getD_some, Option.getD_none, Int.toNat_natCast, List.take_length, List.drop_zero, Nat.zero_add, List.nil_append, List.all_nil, List.append_nil, Bool.true_and, Bool.and_true, rowsA_sla, rowsA_sl, rowsA_nil, minus_zero, nat_le_cast, nat_nonneg, Option.isSome_some, Option.isSome_none, Bool.false_eq_true, false_and, and_false, if_true, if_false, implies_true, Int.toNat_zero, Bool.not_false, Bool.not_true, bne_self_eq_false]; rfl))
theorem t38 (n : Nat) (ac bs ms qs : List (List DV)) (i : Nat) (a0 a1 a2 a3 a4 a5 a6 : Int) : FK tab spJ lc 20 (n+8) 38 [.agg (bk ac bs ms qs), .sl .ro 7 [[.int .i64 a0, .int .i64 a1, .int .i64 a2, .int .i64 a3, .int .i64 a4, .int .i64 a5, .int .i64 a6]], .int .i64 i] =
   (bif a1 != (↑i : Int) then some (DV.bool false)
 else
 bif a4 == (3 : Int) then
 bif IntKind.i64.wrap (IntKind.i64.wrap ((0 : Int) + a3) + (0 : Int)) == (0 : Int) then some (DV.bool false)
 else
 lookK ac[i]? fun (e3 : List DV) =>
 bif okRow [DV.int .i64 0, DV.int .i64 0, DV.int .i64 0] e3 then
 lookK ac[i]? fun (e6 : List DV) =>
 bif okRow [DV.int .i64 0, DV.int .i64 0, DV.int .i64 0] e6 then
 need
 (netS.D
 [DV.agg [DV.sla false 3 ac, DV.sla false 1 bs, DV.sla false 1 ms, DV.sla false 1 qs], DV.int .i64 (↑i : Int)])
 (bif bilB bs qs i a2.toNat a3 then
 need
 (LoopOk (LB tab spJ lc (20 : Nat) (n + (8 : Nat)) h380 c38l0)
 (St.of
 [((1 : Nat),
 AV.d
 (DV.sl SK.ro 7
 [[DV.int .i64 a0, DV.int .i64 a1, DV.int .i64 a2, DV.int .i64 a3, DV.int .i64 a4, DV.int .i64 a5, DV.int .i64 a6]])),
 ((2 : Nat), AV.d (DV.int .i64 (↑i : Int))),
 ((3 : Nat),
 AV.d
 (DV.rptr [DV.sla false 3 ac, DV.sla false 1 bs, DV.sla false 1 ms, DV.sla false 1 qs]
 (0 : Nat))),
 ((7 : Nat), AV.d (DV.int .i64 (IntKind.i64.wrap ((0 : Int) + a3)))), (8, AV.d (DV.int .i64 0)),
 ((9 : Nat), AV.d (DV.int .i64 (IntKind.i64.wrap ((cellA e3 0).toI + (cellA e6 1).toI)))),
 ((10 : Nat), AV.d (DV.int .i64 (sumR (rw qs i)))), (11, AV.d (DV.int .i64 0))]
 [(16, none), (38, none), (3, none)])
 (Ex.ret, St.of [(6, AV.d (DV.bool true))] []))
 (some (DV.bool true))
 else
 need
 (LoopOk (LB tab spJ lc (20 : Nat) (n + (8 : Nat)) h380 c38l0)
 (St.of
 [((1 : Nat),
 AV.d
 (DV.sl SK.ro 7
 [[DV.int .i64 a0, DV.int .i64 a1, DV.int .i64 a2, DV.int .i64 a3, DV.int .i64 a4, DV.int .i64 a5, DV.int .i64 a6]])),
 ((2 : Nat), AV.d (DV.int .i64 (↑i : Int))),
 ((3 : Nat),
 AV.d
 (DV.rptr [DV.sla false 3 ac, DV.sla false 1 bs, DV.sla false 1 ms, DV.sla false 1 qs]
 (0 : Nat))),
 ((7 : Nat), AV.d (DV.int .i64 (IntKind.i64.wrap ((0 : Int) + a3)))), (8, AV.d (DV.int .i64 0)),
 ((9 : Nat), AV.d (DV.int .i64 (IntKind.i64.wrap ((cellA e3 0).toI + (cellA e6 1).toI)))),
 ((10 : Nat), AV.d (DV.int .i64 (sumR (rw qs i)))), (11, AV.d (DV.int .i64 0))]
 [(16, none), (38, none), (3, none)])
 (Ex.ex (0 : Nat),
 St.of
 [(2, AV.d (DV.int .i64 (↑i : Int))),
 ((3 : Nat),
 AV.d
 (DV.rptr [DV.sla false 3 ac, DV.sla false 1 bs, DV.sla false 1 ms, DV.sla false 1 qs]
 (0 : Nat))),
 ((7 : Nat), AV.d (DV.int .i64 (IntKind.i64.wrap ((0 : Int) + a3)))), (8, AV.d (DV.int .i64 0)),
 ((9 : Nat), AV.d (DV.int .i64 (IntKind.i64.wrap ((cellA e3 0).toI + (cellA e6 1).toI) - a3))),
 ((10 : Nat), AV.d (DV.int .i64 (sumR (rw qs i) + a3)))]
 [(16, none), (38, none), (3, none)]))
 (bif decide (IntKind.i64.wrap ((cellA e3 0).toI + (cellA e6 1).toI) - a3 < (0 : Int)) then
 bif decide (IntKind.i64.wrap ((0 : Int) + a3) > (0 : Int)) then some (DV.bool true) else some (DV.bool true)
 else
 bif decide (IntKind.i64.wrap ((0 : Int) + a3) > (0 : Int)) then
 lookK ac[i]? fun (e14 : List DV) =>
 bif okRow [DV.int .i64 0, DV.int .i64 0, DV.int .i64 0] e14 then
 need
 (keptS.D
 [DV.agg
 [DV.int .i64 (cellA e14 0).toI, DV.int .i64 (cellA e14 1).toI, DV.int .i64 (cellA e14 2).toI], DV.int .i64 0])
 (bif
 decide
 (IntKind.i64.wrap ((cellA e3 0).toI + (cellA e6 1).toI) - a3 <
 keptI (cellA e14 2).toI (0 : Int)) then
 some (DV.bool true)
 else
 lookK ms[i]? fun (e19 : List DV) =>
 bif okRow [DV.int .i64 0] e19 then
 bif (cellA e19 0).toI != (-1 : Int) then
 lookK ms[i]? fun (e23 : List DV) =>
 bif okRow [DV.int .i64 0] e23 then
 some (DV.bool (decide (sumR (rw qs i) + a3 > (cellA e23 0).toI)))
 else none
 else some (DV.bool false)
 else none)
 else none
 else
 lookK ms[i]? fun (e19 : List DV) =>
 bif okRow [DV.int .i64 0] e19 then
 bif (cellA e19 0).toI != (-1 : Int) then
 lookK ms[i]? fun (e23 : List DV) =>
 bif okRow [DV.int .i64 0] e23 then some (DV.bool (decide (sumR (rw qs i) + a3 > (cellA e23 0).toI)))
 else none
 else some (DV.bool false)
 else none))
 else none
 else none
 else
 bif IntKind.i64.wrap ((0 : Int) + IntKind.i64.wrap ((0 : Int) + a3)) == (0 : Int) then some (DV.bool false)
 else
 lookK ac[i]? fun (e3 : List DV) =>
 bif okRow [DV.int .i64 0, DV.int .i64 0, DV.int .i64 0] e3 then
 lookK ac[i]? fun (e6 : List DV) =>
 bif okRow [DV.int .i64 0, DV.int .i64 0, DV.int .i64 0] e6 then
 need
 (netS.D
 [DV.agg [DV.sla false 3 ac, DV.sla false 1 bs, DV.sla false 1 ms, DV.sla false 1 qs], DV.int .i64 (↑i : Int)])
 (bif bilB bs qs i a2.toNat a3 then
 need
 (LoopOk (LB tab spJ lc (20 : Nat) (n + (8 : Nat)) h380 c38l0)
 (St.of
 [((1 : Nat),
 AV.d
 (DV.sl SK.ro 7
 [[DV.int .i64 a0, DV.int .i64 a1, DV.int .i64 a2, DV.int .i64 a3, DV.int .i64 a4, DV.int .i64 a5, DV.int .i64 a6]])),
 ((2 : Nat), AV.d (DV.int .i64 (↑i : Int))),
 ((3 : Nat),
 AV.d
 (DV.rptr [DV.sla false 3 ac, DV.sla false 1 bs, DV.sla false 1 ms, DV.sla false 1 qs]
 (0 : Nat))),
 ((7 : Nat), AV.d (DV.int .i64 0)), (8, AV.d (DV.int .i64 (IntKind.i64.wrap ((0 : Int) + a3)))),
 ((9 : Nat), AV.d (DV.int .i64 (IntKind.i64.wrap ((cellA e3 0).toI + (cellA e6 1).toI)))),
 ((10 : Nat), AV.d (DV.int .i64 (sumR (rw qs i)))), (11, AV.d (DV.int .i64 0))]
 [(16, none), (38, none), (3, none)])
 (Ex.ret, St.of [(6, AV.d (DV.bool true))] []))
 (some (DV.bool true))
 else
 need
 (LoopOk (LB tab spJ lc (20 : Nat) (n + (8 : Nat)) h380 c38l0)
 (St.of
 [((1 : Nat),
 AV.d
 (DV.sl SK.ro 7
 [[DV.int .i64 a0, DV.int .i64 a1, DV.int .i64 a2, DV.int .i64 a3, DV.int .i64 a4, DV.int .i64 a5, DV.int .i64 a6]])),
 ((2 : Nat), AV.d (DV.int .i64 (↑i : Int))),
 ((3 : Nat),
 AV.d
 (DV.rptr [DV.sla false 3 ac, DV.sla false 1 bs, DV.sla false 1 ms, DV.sla false 1 qs]
 (0 : Nat))),
 ((7 : Nat), AV.d (DV.int .i64 0)), (8, AV.d (DV.int .i64 (IntKind.i64.wrap ((0 : Int) + a3)))),
 ((9 : Nat), AV.d (DV.int .i64 (IntKind.i64.wrap ((cellA e3 0).toI + (cellA e6 1).toI)))),
 ((10 : Nat), AV.d (DV.int .i64 (sumR (rw qs i)))), (11, AV.d (DV.int .i64 0))]
 [(16, none), (38, none), (3, none)])
 (Ex.ex (0 : Nat),
 St.of
 [(2, AV.d (DV.int .i64 (↑i : Int))),
 ((3 : Nat),
 AV.d
 (DV.rptr [DV.sla false 3 ac, DV.sla false 1 bs, DV.sla false 1 ms, DV.sla false 1 qs]
 (0 : Nat))),
 ((7 : Nat), AV.d (DV.int .i64 0)), (8, AV.d (DV.int .i64 (IntKind.i64.wrap ((0 : Int) + a3)))),
 ((9 : Nat), AV.d (DV.int .i64 (IntKind.i64.wrap ((cellA e3 0).toI + (cellA e6 1).toI) - a3))),
 ((10 : Nat), AV.d (DV.int .i64 (sumR (rw qs i) + a3)))]
 [(16, none), (38, none), (3, none)]))
 (bif decide (IntKind.i64.wrap ((cellA e3 0).toI + (cellA e6 1).toI) - a3 < (0 : Int)) then some (DV.bool true)
 else
 lookK ms[i]? fun (e19 : List DV) =>
 bif okRow [DV.int .i64 0] e19 then
 bif (cellA e19 0).toI != (-1 : Int) then
 lookK ms[i]? fun (e23 : List DV) =>
 bif okRow [DV.int .i64 0] e23 then some (DV.bool (decide (sumR (rw qs i) + a3 > (cellA e23 0).toI)))
 else none
 else some (DV.bool false)
 else none))
 else none
 else none) :=
  (show FK tab spJ lc 20 (n+8) 38 [.agg (bk ac bs ms qs), .sl .ro 7 [[.int .i64 a0, .int .i64 a1, .int .i64 a2, .int .i64 a3, .int .i64 a4, .int .i64 a5, .int .i64 a6]], .int .i64 i] =
 (cond (a1 != (↑i : Int))
 (some (.bool false))
 (cond (a4 == (3 : Int))
 (cond (IntKind.i64.wrap (IntKind.i64.wrap ((0 : Int) + a3) + (0 : Int)) == (0 : Int))
 (some (.bool false))
 (lookK (ac[(↑i : Int).toNat]?)
 fun e3 =>
 (cond (okRow [DV.int .i64 0, DV.int .i64 0, DV.int .i64 0] e3)
 (lookK (ac[(↑i : Int).toNat]?)
 fun e6 =>
 (cond (okRow [DV.int .i64 0, DV.int .i64 0, DV.int .i64 0] e6)
 (need (FSpec.D (netS) [(.agg [(.sla false 3 ac), (.sla false 1 bs), (.sla false 1 ms), (.sla false 1 qs)]), (.int .i64 ((↑i : Int)))])
 (cond (bilB bs qs (↑i : Int).toNat a2.toNat a3)
 (need (LoopOk (LB tab spJ lc ((20 : Nat)) (n + (8 : Nat)) h380 c38l0) (St.of [(1, (.d (.sl (SK.ro) 7 [[(.int .i64 a0), (.int .i64 a1), (.int .i64 a2), (.int .i64 a3), (.int .i64 a4), (.int .i64 a5), (.int .i64 a6)]]))), (2, (.d (.int .i64 ((↑i : Int))))), (3, (.d (.rptr [(.sla false 3 ac), (.sla false 1 bs), (.sla false 1 ms), (.sla false 1 qs)] 0))), (7, (.d (.int .i64 (IntKind.i64.wrap ((0 : Int) + a3))))), (8, (.d (.int .i64 ((0 : Int))))), (9, (.d (.int .i64 (IntKind.i64.wrap ((cellA e3 0).toI + (cellA e6 1).toI))))), (10, (.d (.int .i64 (sumR (rw qs (↑i : Int).toNat))))), (11, (.d (.int .i64 ((0 : Int)))))] [(16, .none), (38, .none), (3, .none)]) (.ret, (St.of [(6, (.d (.bool true)))] [])))
 (some (.bool true)))
 (need (LoopOk (LB tab spJ lc ((20 : Nat)) (n + (8 : Nat)) h380 c38l0) (St.of [(1, (.d (.sl (SK.ro) 7 [[(.int .i64 a0), (.int .i64 a1), (.int .i64 a2), (.int .i64 a3), (.int .i64 a4), (.int .i64 a5), (.int .i64 a6)]]))), (2, (.d (.int .i64 ((↑i : Int))))), (3, (.d (.rptr [(.sla false 3 ac), (.sla false 1 bs), (.sla false 1 ms), (.sla false 1 qs)] 0))), (7, (.d (.int .i64 (IntKind.i64.wrap ((0 : Int) + a3))))), (8, (.d (.int .i64 ((0 : Int))))), (9, (.d (.int .i64 (IntKind.i64.wrap ((cellA e3 0).toI + (cellA e6 1).toI))))), (10, (.d (.int .i64 (sumR (rw qs (↑i : Int).toNat))))), (11, (.d (.int .i64 ((0 : Int)))))] [(16, .none), (38, .none), (3, .none)]) ((.ex 0), (St.of [(2, (.d (.int .i64 ((↑i : Int))))), (3, (.d (.rptr [(.sla false 3 ac), (.sla false 1 bs), (.sla false 1 ms), (.sla false 1 qs)] 0))), (7, (.d (.int .i64 (IntKind.i64.wrap ((0 : Int) + a3))))), (8, (.d (.int .i64 ((0 : Int))))), (9, (.d (.int .i64 (IntKind.i64.wrap ((cellA e3 0).toI + (cellA e6 1).toI) - a3)))), (10, (.d (.int .i64 (sumR (rw qs (↑i : Int).toNat) + a3))))] [(16, .none), (38, .none), (3, .none)])))
 (cond (decide (IntKind.i64.wrap ((cellA e3 0).toI + (cellA e6 1).toI) - a3 < (0 : Int)))
 (cond (decide (IntKind.i64.wrap ((0 : Int) + a3) > (0 : Int)))
 (some (.bool true))
 (some (.bool true)))
 (cond (decide (IntKind.i64.wrap ((0 : Int) + a3) > (0 : Int)))
 (lookK (ac[(↑i : Int).toNat]?)
 fun e14 =>
 (cond (okRow [DV.int .i64 0, DV.int .i64 0, DV.int .i64 0] e14)
 (need (FSpec.D (keptS) [(.agg [(.int .i64 ((cellA e14 0).toI)), (.int .i64 ((cellA e14 1).toI)), (.int .i64 ((cellA e14 2).toI))]), (.int .i64 ((0 : Int)))])
 (cond (decide (IntKind.i64.wrap ((cellA e3 0).toI + (cellA e6 1).toI) - a3 < keptI (cellA e14 2).toI (0 : Int)))
 (some (.bool true))
 (lookK (ms[(↑i : Int).toNat]?)
 fun e19 =>
 (cond (okRow [DV.int .i64 0] e19)
 (cond ((cellA e19 0).toI != (-1 : Int))
 (lookK (ms[(↑i : Int).toNat]?)
 fun e23 =>
 (cond (okRow [DV.int .i64 0] e23)
 (some (.bool (decide (sumR (rw qs (↑i : Int).toNat) + a3 > (cellA e23 0).toI))))
 none))
 (some (.bool false)))
 none))))
 none))
 (lookK (ms[(↑i : Int).toNat]?)
 fun e14 =>
 (cond (okRow [DV.int .i64 0] e14)
 (cond ((cellA e14 0).toI != (-1 : Int))
 (lookK (ms[(↑i : Int).toNat]?)
 fun e18 =>
 (cond (okRow [DV.int .i64 0] e18)
 (some (.bool (decide (sumR (rw qs (↑i : Int).toNat) + a3 > (cellA e18 0).toI))))
 none))
 (some (.bool false)))
 none)))))))
 none))
 none)))
 (cond (IntKind.i64.wrap ((0 : Int) + IntKind.i64.wrap ((0 : Int) + a3)) == (0 : Int))
 (some (.bool false))
 (lookK (ac[(↑i : Int).toNat]?)
 fun e3 =>
 (cond (okRow [DV.int .i64 0, DV.int .i64 0, DV.int .i64 0] e3)
 (lookK (ac[(↑i : Int).toNat]?)
 fun e6 =>
 (cond (okRow [DV.int .i64 0, DV.int .i64 0, DV.int .i64 0] e6)
 (need (FSpec.D (netS) [(.agg [(.sla false 3 ac), (.sla false 1 bs), (.sla false 1 ms), (.sla false 1 qs)]), (.int .i64 ((↑i : Int)))])
 (cond (bilB bs qs (↑i : Int).toNat a2.toNat a3)
 (need (LoopOk (LB tab spJ lc ((20 : Nat)) (n + (8 : Nat)) h380 c38l0) (St.of [(1, (.d (.sl (SK.ro) 7 [[(.int .i64 a0), (.int .i64 a1), (.int .i64 a2), (.int .i64 a3), (.int .i64 a4), (.int .i64 a5), (.int .i64 a6)]]))), (2, (.d (.int .i64 ((↑i : Int))))), (3, (.d (.rptr [(.sla false 3 ac), (.sla false 1 bs), (.sla false 1 ms), (.sla false 1 qs)] 0))), (7, (.d (.int .i64 ((0 : Int))))), (8, (.d (.int .i64 (IntKind.i64.wrap ((0 : Int) + a3))))), (9, (.d (.int .i64 (IntKind.i64.wrap ((cellA e3 0).toI + (cellA e6 1).toI))))), (10, (.d (.int .i64 (sumR (rw qs (↑i : Int).toNat))))), (11, (.d (.int .i64 ((0 : Int)))))] [(16, .none), (38, .none), (3, .none)]) (.ret, (St.of [(6, (.d (.bool true)))] [])))
 (some (.bool true)))
 (need (LoopOk (LB tab spJ lc ((20 : Nat)) (n + (8 : Nat)) h380 c38l0) (St.of [(1, (.d (.sl (SK.ro) 7 [[(.int .i64 a0), (.int .i64 a1), (.int .i64 a2), (.int .i64 a3), (.int .i64 a4), (.int .i64 a5), (.int .i64 a6)]]))), (2, (.d (.int .i64 ((↑i : Int))))), (3, (.d (.rptr [(.sla false 3 ac), (.sla false 1 bs), (.sla false 1 ms), (.sla false 1 qs)] 0))), (7, (.d (.int .i64 ((0 : Int))))), (8, (.d (.int .i64 (IntKind.i64.wrap ((0 : Int) + a3))))), (9, (.d (.int .i64 (IntKind.i64.wrap ((cellA e3 0).toI + (cellA e6 1).toI))))), (10, (.d (.int .i64 (sumR (rw qs (↑i : Int).toNat))))), (11, (.d (.int .i64 ((0 : Int)))))] [(16, .none), (38, .none), (3, .none)]) ((.ex 0), (St.of [(2, (.d (.int .i64 ((↑i : Int))))), (3, (.d (.rptr [(.sla false 3 ac), (.sla false 1 bs), (.sla false 1 ms), (.sla false 1 qs)] 0))), (7, (.d (.int .i64 ((0 : Int))))), (8, (.d (.int .i64 (IntKind.i64.wrap ((0 : Int) + a3))))), (9, (.d (.int .i64 (IntKind.i64.wrap ((cellA e3 0).toI + (cellA e6 1).toI) - a3)))), (10, (.d (.int .i64 (sumR (rw qs (↑i : Int).toNat) + a3))))] [(16, .none), (38, .none), (3, .none)])))
 (cond (decide (IntKind.i64.wrap ((cellA e3 0).toI + (cellA e6 1).toI) - a3 < (0 : Int)))
 (some (.bool true))
 (lookK (ms[(↑i : Int).toNat]?)
 fun e13 =>
 (cond (okRow [DV.int .i64 0] e13)
 (cond ((cellA e13 0).toI != (-1 : Int))
 (lookK (ms[(↑i : Int).toNat]?)
 fun e17 =>
 (cond (okRow [DV.int .i64 0] e17)
 (some (.bool (decide (sumR (rw qs (↑i : Int).toNat) + a3 > (cellA e17 0).toI))))
 none))
 (some (.bool false)))
 none))))))
 none))
 none))))) from by kernel_rfl).trans (by first | rfl | (simp only [decide_true, decide_false, eq_self, and_true, true_and, and_self, cond_true, cond_false, Nat.le_refl, Int.le_refl, Option.getD_some, Option.getD_none, Int.toNat_natCast, List.take_length, List.drop_zero, Nat.zero_add, List.nil_append, List.all_nil, List.append_nil, Bool.true_and, Bool.and_true, rowsA_sla, rowsA_sl, rowsA_nil, minus_zero, nat_le_cast, nat_nonneg, Option.isSome_some, Option.isSome_none, Bool.false_eq_true, false_and, and_false, if_true, if_false, implies_true, Int.toNat_zero, Bool.not_false, Bool.not_true, bne_self_eq_false]; done) | (simp only [decide_true, decide_false, eq_self, and_true, true_and, and_self, cond_true, cond_false, Nat.le_refl, Int.le_refl, Option.getD_some, Option.getD_none, Int.toNat_natCast, List.take_length, List.drop_zero, Nat.zero_add, List.nil_append, List.all_nil, List.append_nil, Bool.true_and, Bool.and_true, rowsA_sla, rowsA_sl, rowsA_nil, minus_zero, nat_le_cast, nat_nonneg, Option.isSome_some, Option.isSome_none, Bool.false_eq_true, false_and, and_false, if_true, if_false, implies_true, Int.toNat_zero, Bool.not_false, Bool.not_true, bne_self_eq_false]; rfl))
theorem s350n (L n : Nat) (ac bs ms qs : List (List DV)) (i : Nat) (a0 a1 a2 a3 a4 a5 a6 : Int) (k : Kont) : LB tab spU lc L (n+4) h350 c35l0 (S350 (bk ac bs ms qs) [.int .i64 a0, .int .i64 a1, .int .i64 a2, .int .i64 a3, .int .i64 a4, .int .i64 a5, .int .i64 a6] (.d .nilsl) i [(21, none), (50021, none)]) k =
   (bif decide ((↑i : Int) < (↑ac.length : Int)) then
 need
 (shoS.D
 [DV.agg [DV.sla false 3 ac, DV.sla false 1 bs, DV.sla false 1 ms, DV.sla false 1 qs],
 DV.sl SK.ro 7
 [[DV.int .i64 a0, DV.int .i64 a1, DV.int .i64 a2, DV.int .i64 a3, DV.int .i64 a4, DV.int .i64 a5, DV.int .i64 a6]], DV.int .i64 (↑i : Int)])
 (bif bif a1 == (↑i : Int) then shB ac bs ms qs a1.toNat a2.toNat a3 a4 else false then
 k Ex.nrm
 (St.of
 [((1 : Nat),
 AV.d
 (DV.sl SK.ro 7
 [[DV.int .i64 a0, DV.int .i64 a1, DV.int .i64 a2, DV.int .i64 a3, DV.int .i64 a4, DV.int .i64 a5, DV.int .i64 a6]])),
 ((2 : Nat),
 AV.d (DV.rptr [DV.sla false 3 ac, DV.sla false 1 bs, DV.sla false 1 ms, DV.sla false 1 qs] (0 : Nat))),
 ((5 : Nat), AV.aref 21 1 0 (1 : Nat)), (6, AV.d (DV.int .i64 (IntKind.i64.wrap ((↑i : Int) + (1 : Int)))))]
 [(21, some (Ob.dat 3 1 [[DV.int .i64 (↑i : Int)]])), (50021, none), (2, none)])
 else
 k Ex.nrm
 (St.of
 [((1 : Nat),
 AV.d
 (DV.sl SK.ro 7
 [[DV.int .i64 a0, DV.int .i64 a1, DV.int .i64 a2, DV.int .i64 a3, DV.int .i64 a4, DV.int .i64 a5, DV.int .i64 a6]])),
 ((2 : Nat),
 AV.d (DV.rptr [DV.sla false 3 ac, DV.sla false 1 bs, DV.sla false 1 ms, DV.sla false 1 qs] (0 : Nat))),
 ((5 : Nat), AV.d DV.nilsl), (6, AV.d (DV.int .i64 (IntKind.i64.wrap ((↑i : Int) + (1 : Int)))))]
 [(21, none), (50021, none), (2, none)]))
 else k (Ex.ex (0 : Nat)) (St.of [(5, AV.d DV.nilsl)] [(21, none), (50021, none)])) :=
  (show LB tab spU lc L (n+4) h350 c35l0 (S350 (bk ac bs ms qs) [.int .i64 a0, .int .i64 a1, .int .i64 a2, .int .i64 a3, .int .i64 a4, .int .i64 a5, .int .i64 a6] (.d .nilsl) i [(21, none), (50021, none)]) k =
 (cond (decide ((↑i : Int) < (↑ac.length : Int)))
 (need (FSpec.D (shoS) [(.agg [(.sla false 3 ac), (.sla false 1 bs), (.sla false 1 ms), (.sla false 1 qs)]), (.sl (SK.ro) 7 [[(.int .i64 a0), (.int .i64 a1), (.int .i64 a2), (.int .i64 a3), (.int .i64 a4), (.int .i64 a5), (.int .i64 a6)]]), (.int .i64 ((↑i : Int)))])
 (cond (bif a1 == (↑i : Int) then shB ac bs ms qs a1.toNat a2.toNat a3 a4 else false)
 (k .nrm (St.of [(1, (.d (.sl (SK.ro) 7 [[(.int .i64 a0), (.int .i64 a1), (.int .i64 a2), (.int .i64 a3), (.int .i64 a4), (.int .i64 a5), (.int .i64 a6)]]))), (2, (.d (.rptr [(.sla false 3 ac), (.sla false 1 bs), (.sla false 1 ms), (.sla false 1 qs)] 0))), (5, (.aref 21 1 0 1)), (6, (.d (.int .i64 (IntKind.i64.wrap ((↑i : Int) + (1 : Int))))))] [(21, (.some (.dat 3 1 [[(.int .i64 ((↑i : Int)))]]))), (50021, .none), (2, .none)]))
 (k .nrm (St.of [(1, (.d (.sl (SK.ro) 7 [[(.int .i64 a0), (.int .i64 a1), (.int .i64 a2), (.int .i64 a3), (.int .i64 a4), (.int .i64 a5), (.int .i64 a6)]]))), (2, (.d (.rptr [(.sla false 3 ac), (.sla false 1 bs), (.sla false 1 ms), (.sla false 1 qs)] 0))), (5, (.d .nilsl)), (6, (.d (.int .i64 (IntKind.i64.wrap ((↑i : Int) + (1 : Int))))))] [(21, .none), (50021, .none), (2, .none)]))))
 (k (.ex 0) (St.of [(5, (.d .nilsl))] [(21, .none), (50021, .none)]))) from by kernel_rfl).trans (by first | rfl | (simp only [decide_true, decide_false, eq_self, and_true, true_and, and_self, cond_true, cond_false, Nat.le_refl, Int.le_refl, Option.getD_some, Option.getD_none, Int.toNat_natCast, List.take_length, List.drop_zero, Nat.zero_add, List.nil_append, List.all_nil, List.append_nil, Bool.true_and, Bool.and_true, rowsA_sla, rowsA_sl, rowsA_nil, minus_zero, nat_le_cast, nat_nonneg, Option.isSome_some, Option.isSome_none, Bool.false_eq_true, false_and, and_false, if_true, if_false, implies_true, Int.toNat_zero, Bool.not_false, Bool.not_true, bne_self_eq_false]; done) | (simp only [decide_true, decide_false, eq_self, and_true, true_and, and_self, cond_true, cond_false, Nat.le_refl, Int.le_refl, Option.getD_some, Option.getD_none, Int.toNat_natCast, List.take_length, List.drop_zero, Nat.zero_add, List.nil_append, List.all_nil, List.append_nil, Bool.true_and, Bool.and_true, rowsA_sla, rowsA_sl, rowsA_nil, minus_zero, nat_le_cast, nat_nonneg, Option.isSome_some, Option.isSome_none, Bool.false_eq_true, false_and, and_false, if_true, if_false, implies_true, Int.toNat_zero, Bool.not_false, Bool.not_true, bne_self_eq_false]; rfl))
theorem s350a (L n : Nat) (ac bs ms qs : List (List DV)) (i : Nat) (x a0 a1 a2 a3 a4 a5 a6 : Int) (k : Kont) : LB tab spU lc L (n+4) h350 c35l0 (S350 (bk ac bs ms qs) [.int .i64 a0, .int .i64 a1, .int .i64 a2, .int .i64 a3, .int .i64 a4, .int .i64 a5, .int .i64 a6] (.aref 21 1 0 1) i [(21, some (.dat 3 1 [[.int .i64 x]])), (50021, none)]) k =
   (bif decide ((↑i : Int) < (↑ac.length : Int)) then
 need
 (shoS.D
 [DV.agg [DV.sla false 3 ac, DV.sla false 1 bs, DV.sla false 1 ms, DV.sla false 1 qs],
 DV.sl SK.ro 7
 [[DV.int .i64 a0, DV.int .i64 a1, DV.int .i64 a2, DV.int .i64 a3, DV.int .i64 a4, DV.int .i64 a5, DV.int .i64 a6]], DV.int .i64 (↑i : Int)])
 (bif bif a1 == (↑i : Int) then shB ac bs ms qs a1.toNat a2.toNat a3 a4 else false then
 k Ex.nrm
 (St.of
 [((1 : Nat),
 AV.d
 (DV.sl SK.ro 7
 [[DV.int .i64 a0, DV.int .i64 a1, DV.int .i64 a2, DV.int .i64 a3, DV.int .i64 a4, DV.int .i64 a5, DV.int .i64 a6]])),
 ((2 : Nat),
 AV.d (DV.rptr [DV.sla false 3 ac, DV.sla false 1 bs, DV.sla false 1 ms, DV.sla false 1 qs] (0 : Nat))),
 ((5 : Nat), AV.aref (alt (21 : Nat) (21 : Nat)) (1 : Nat) (0 : Nat) (2 : Nat)),
 ((6 : Nat), AV.d (DV.int .i64 (IntKind.i64.wrap ((↑i : Int) + (1 : Int)))))]
 [(21, none), (50021, some (Ob.dat 3 1 [[DV.int .i64 x], [DV.int .i64 (↑i : Int)]])),
 ((2 : Nat), none)])
 else
 k Ex.nrm
 (St.of
 [((1 : Nat),
 AV.d
 (DV.sl SK.ro 7
 [[DV.int .i64 a0, DV.int .i64 a1, DV.int .i64 a2, DV.int .i64 a3, DV.int .i64 a4, DV.int .i64 a5, DV.int .i64 a6]])),
 ((2 : Nat),
 AV.d (DV.rptr [DV.sla false 3 ac, DV.sla false 1 bs, DV.sla false 1 ms, DV.sla false 1 qs] (0 : Nat))),
 ((5 : Nat), AV.aref 21 1 0 (1 : Nat)), (6, AV.d (DV.int .i64 (IntKind.i64.wrap ((↑i : Int) + (1 : Int)))))]
 [(21, some (Ob.dat 3 1 [[DV.int .i64 x]])), (50021, none), (2, none)]))
 else
 k (Ex.ex (0 : Nat))
 (St.of [(5, AV.aref 21 1 0 (1 : Nat))]
 [(21, some (Ob.dat 3 1 [[DV.int .i64 x]])), (50021, none)])) :=
  (show LB tab spU lc L (n+4) h350 c35l0 (S350 (bk ac bs ms qs) [.int .i64 a0, .int .i64 a1, .int .i64 a2, .int .i64 a3, .int .i64 a4, .int .i64 a5, .int .i64 a6] (.aref 21 1 0 1) i [(21, some (.dat 3 1 [[.int .i64 x]])), (50021, none)]) k =
 (cond (decide ((↑i : Int) < (↑ac.length : Int)))
 (need (FSpec.D (shoS) [(.agg [(.sla false 3 ac), (.sla false 1 bs), (.sla false 1 ms), (.sla false 1 qs)]), (.sl (SK.ro) 7 [[(.int .i64 a0), (.int .i64 a1), (.int .i64 a2), (.int .i64 a3), (.int .i64 a4), (.int .i64 a5), (.int .i64 a6)]]), (.int .i64 ((↑i : Int)))])
 (cond (bif a1 == (↑i : Int) then shB ac bs ms qs a1.toNat a2.toNat a3 a4 else false)
 (k .nrm (St.of [(1, (.d (.sl (SK.ro) 7 [[(.int .i64 a0), (.int .i64 a1), (.int .i64 a2), (.int .i64 a3), (.int .i64 a4), (.int .i64 a5), (.int .i64 a6)]]))), (2, (.d (.rptr [(.sla false 3 ac), (.sla false 1 bs), (.sla false 1 ms), (.sla false 1 qs)] 0))), (5, (.aref (alt 21 21) 1 0 2)), (6, (.d (.int .i64 (IntKind.i64.wrap ((↑i : Int) + (1 : Int))))))] [(21, .none), (50021, (.some (.dat 3 1 [[(.int .i64 x)], [(.int .i64 ((↑i : Int)))]]))), (2, .none)]))
 (k .nrm (St.of [(1, (.d (.sl (SK.ro) 7 [[(.int .i64 a0), (.int .i64 a1), (.int .i64 a2), (.int .i64 a3), (.int .i64 a4), (.int .i64 a5), (.int .i64 a6)]]))), (2, (.d (.rptr [(.sla false 3 ac), (.sla false 1 bs), (.sla false 1 ms), (.sla false 1 qs)] 0))), (5, (.aref 21 1 0 1)), (6, (.d (.int .i64 (IntKind.i64.wrap ((↑i : Int) + (1 : Int))))))] [(21, (.some (.dat 3 1 [[(.int .i64 x)]]))), (50021, .none), (2, .none)]))))
 (k (.ex 0) (St.of [(5, (.aref 21 1 0 1))] [(21, (.some (.dat 3 1 [[(.int .i64 x)]]))), (50021, .none)]))) from by kernel_rfl).trans (by first | rfl | (simp only [decide_true, decide_false, eq_self, and_true, true_and, and_self, cond_true, cond_false, Nat.le_refl, Int.le_refl, Option.getD_some, Option.getD_none, Int.toNat_natCast, List.take_length, List.drop_zero, Nat.zero_add, List.nil_append, List.all_nil, List.append_nil, Bool.true_and, Bool.and_true, rowsA_sla, rowsA_sl, rowsA_nil, minus_zero, nat_le_cast, nat_nonneg, Option.isSome_some, Option.isSome_none, Bool.false_eq_true, false_and, and_false, if_true, if_false, implies_true, Int.toNat_zero, Bool.not_false, Bool.not_true, bne_self_eq_false]; done) | (simp only [decide_true, decide_false, eq_self, and_true, true_and, and_self, cond_true, cond_false, Nat.le_refl, Int.le_refl, Option.getD_some, Option.getD_none, Int.toNat_natCast, List.take_length, List.drop_zero, Nat.zero_add, List.nil_append, List.all_nil, List.append_nil, Bool.true_and, Bool.and_true, rowsA_sla, rowsA_sl, rowsA_nil, minus_zero, nat_le_cast, nat_nonneg, Option.isSome_some, Option.isSome_none, Bool.false_eq_true, false_and, and_false, if_true, if_false, implies_true, Int.toNat_zero, Bool.not_false, Bool.not_true, bne_self_eq_false]; rfl))
theorem t35 (n : Nat) (ac bs ms qs : List (List DV)) (a0 a1 a2 a3 a4 a5 a6 : Int) : FK tab spU lc 20 (n+8) 35 [.agg (bk ac bs ms qs), .sl .ro 7 [[.int .i64 a0, .int .i64 a1, .int .i64 a2, .int .i64 a3, .int .i64 a4, .int .i64 a5, .int .i64 a6]]] =
   (bif shB ac bs ms qs a1.toNat a2.toNat a3 a4 then
 need
 (LoopOk (LB tab spU lc (20 : Nat) (n + (8 : Nat)) h350 c35l0)
 (St.of
 [((1 : Nat),
 AV.d
 (DV.sl SK.ro 7
 [[DV.int .i64 a0, DV.int .i64 a1, DV.int .i64 a2, DV.int .i64 a3, DV.int .i64 a4, DV.int .i64 a5, DV.int .i64 a6]])),
 ((2 : Nat),
 AV.d (DV.rptr [DV.sla false 3 ac, DV.sla false 1 bs, DV.sla false 1 ms, DV.sla false 1 qs] (0 : Nat))),
 ((5 : Nat), AV.d DV.nilsl), (6, AV.d (DV.int .i64 0))]
 [(21, none), (50021, none), (2, none)])
 (Ex.ex (0 : Nat),
 St.of [(5, AV.aref 21 1 0 (1 : Nat))]
 [(21, some (Ob.dat 3 1 [[DV.int .i64 a1]])), (50021, none)]))
 (some (DV.sl (SK.own (3 : TypeId)) (1 : Nat) [[DV.int .i64 a1]]))
 else
 need
 (LoopOk (LB tab spU lc (20 : Nat) (n + (8 : Nat)) h350 c35l0)
 (St.of
 [((1 : Nat),
 AV.d
 (DV.sl SK.ro 7
 [[DV.int .i64 a0, DV.int .i64 a1, DV.int .i64 a2, DV.int .i64 a3, DV.int .i64 a4, DV.int .i64 a5, DV.int .i64 a6]])),
 ((2 : Nat),
 AV.d (DV.rptr [DV.sla false 3 ac, DV.sla false 1 bs, DV.sla false 1 ms, DV.sla false 1 qs] (0 : Nat))),
 ((5 : Nat), AV.d DV.nilsl), (6, AV.d (DV.int .i64 0))]
 [(21, none), (50021, none), (2, none)])
 (Ex.ex (0 : Nat), St.of [(5, AV.d DV.nilsl)] [(21, none), (50021, none)]))
 (some DV.nilsl)) :=
  (show FK tab spU lc 20 (n+8) 35 [.agg (bk ac bs ms qs), .sl .ro 7 [[.int .i64 a0, .int .i64 a1, .int .i64 a2, .int .i64 a3, .int .i64 a4, .int .i64 a5, .int .i64 a6]]] =
 (cond (shB ac bs ms qs a1.toNat a2.toNat a3 a4)
 (need (LoopOk (LB tab spU lc ((20 : Nat)) (n + (8 : Nat)) h350 c35l0) (St.of [(1, (.d (.sl (SK.ro) 7 [[(.int .i64 a0), (.int .i64 a1), (.int .i64 a2), (.int .i64 a3), (.int .i64 a4), (.int .i64 a5), (.int .i64 a6)]]))), (2, (.d (.rptr [(.sla false 3 ac), (.sla false 1 bs), (.sla false 1 ms), (.sla false 1 qs)] 0))), (5, (.d .nilsl)), (6, (.d (.int .i64 ((0 : Int)))))] [(21, .none), (50021, .none), (2, .none)]) ((.ex 0), (St.of [(5, (.aref 21 1 0 1))] [(21, (.some (.dat 3 1 [[(.int .i64 a1)]]))), (50021, .none)])))
 (some (.sl (SK.own (3 : TypeId)) 1 [[(.int .i64 a1)]])))
 (need (LoopOk (LB tab spU lc ((20 : Nat)) (n + (8 : Nat)) h350 c35l0) (St.of [(1, (.d (.sl (SK.ro) 7 [[(.int .i64 a0), (.int .i64 a1), (.int .i64 a2), (.int .i64 a3), (.int .i64 a4), (.int .i64 a5), (.int .i64 a6)]]))), (2, (.d (.rptr [(.sla false 3 ac), (.sla false 1 bs), (.sla false 1 ms), (.sla false 1 qs)] 0))), (5, (.d .nilsl)), (6, (.d (.int .i64 ((0 : Int)))))] [(21, .none), (50021, .none), (2, .none)]) ((.ex 0), (St.of [(5, (.d .nilsl))] [(21, .none), (50021, .none)])))
 (some .nilsl))) from by kernel_rfl).trans (by first | rfl | (simp only [decide_true, decide_false, eq_self, and_true, true_and, and_self, cond_true, cond_false, Nat.le_refl, Int.le_refl, Option.getD_some, Option.getD_none, Int.toNat_natCast, List.take_length, List.drop_zero, Nat.zero_add, List.nil_append, List.all_nil, List.append_nil, Bool.true_and, Bool.and_true, rowsA_sla, rowsA_sl, rowsA_nil, minus_zero, nat_le_cast, nat_nonneg, Option.isSome_some, Option.isSome_none, Bool.false_eq_true, false_and, and_false, if_true, if_false, implies_true, Int.toNat_zero, Bool.not_false, Bool.not_true, bne_self_eq_false]; done) | (simp only [decide_true, decide_false, eq_self, and_true, true_and, and_self, cond_true, cond_false, Nat.le_refl, Int.le_refl, Option.getD_some, Option.getD_none, Int.toNat_natCast, List.take_length, List.drop_zero, Nat.zero_add, List.nil_append, List.all_nil, List.append_nil, Bool.true_and, Bool.and_true, rowsA_sla, rowsA_sl, rowsA_nil, minus_zero, nat_le_cast, nat_nonneg, Option.isSome_some, Option.isSome_none, Bool.false_eq_true, false_and, and_false, if_true, if_false, implies_true, Int.toNat_zero, Bool.not_false, Bool.not_true, bne_self_eq_false]; rfl))
theorem t34 (n : Nat) (ac bs ms qs : List (List DV)) (a0 a1 a2 a3 a4 a5 a6 : Int) : FK tab noSp lc 20 (n+8) 34 [.agg (bk ac bs ms qs), .sl .ro 7 [[.int .i64 a0, .int .i64 a1, .int .i64 a2, .int .i64 a3, .int .i64 a4, .int .i64 a5, .int .i64 a6]]] =
   (bif
 !bif
 bif
 bif
 bif
 bif
 bif bif bif decide (a1 ≥ (0 : Int)) then decide (a1 < (↑ac.length : Int)) else false then decide (a2 ≥ (0 : Int)) else false then
 decide (a2 < (↑ac.length : Int))
 else false then
 a1 != a2
 else false then
 decide (a3 ≥ (1 : Int))
 else false then
 decide (a3 ≤ (1099511627776 : Int))
 else false then
 decide (a4 ≥ (1 : Int))
 else false then
 decide (a4 ≤ (3 : Int))
 else false then
 some (DV.bool false)
 else some (DV.bool true)) :=
  (show FK tab noSp lc 20 (n+8) 34 [.agg (bk ac bs ms qs), .sl .ro 7 [[.int .i64 a0, .int .i64 a1, .int .i64 a2, .int .i64 a3, .int .i64 a4, .int .i64 a5, .int .i64 a6]]] =
 (cond (!bif bif bif bif bif bif bif bif decide (a1 ≥ (0 : Int)) then decide (a1 < (↑ac.length : Int)) else false then decide (a2 ≥ (0 : Int)) else false then decide (a2 < (↑ac.length : Int)) else false then a1 != a2 else false then decide (a3 ≥ (1 : Int)) else false then decide (a3 ≤ (1099511627776 : Int)) else false then decide (a4 ≥ (1 : Int)) else false then decide (a4 ≤ (3 : Int)) else false)
 (some (.bool false))
 (some (.bool (decide ((1 : Int) ≤ (64 : Int)))))) from by kernel_rfl).trans (by first | rfl | (simp only [decide_true, decide_false, eq_self, and_true, true_and, and_self, cond_true, cond_false, Nat.le_refl, Int.le_refl, Option.getD_some, Option.getD_none, Int.toNat_natCast, List.take_length, List.drop_zero, Nat.zero_add, List.nil_append, List.all_nil, List.append_nil, Bool.true_and, Bool.and_true, rowsA_sla, rowsA_sl, rowsA_nil, minus_zero, nat_le_cast, nat_nonneg, Option.isSome_some, Option.isSome_none, Bool.false_eq_true, false_and, and_false, if_true, if_false, implies_true, Int.toNat_zero, Bool.not_false, Bool.not_true, bne_self_eq_false]; done) | (simp only [decide_true, decide_false, eq_self, and_true, true_and, and_self, cond_true, cond_false, Nat.le_refl, Int.le_refl, Option.getD_some, Option.getD_none, Int.toNat_natCast, List.take_length, List.drop_zero, Nat.zero_add, List.nil_append, List.all_nil, List.append_nil, Bool.true_and, Bool.and_true, rowsA_sla, rowsA_sl, rowsA_nil, minus_zero, nat_le_cast, nat_nonneg, Option.isSome_some, Option.isSome_none, Bool.false_eq_true, false_and, and_false, if_true, if_false, implies_true, Int.toNat_zero, Bool.not_false, Bool.not_true, bne_self_eq_false]; rfl))
theorem mayB_iff {n f t a c : Int} : mayB n f t a c = true ↔ (0 ≤ f ∧ f < n ∧ 0 ≤ t ∧ t < n ∧ f ≠ t ∧ 1 ≤ a ∧ a ≤ 1099511627776 ∧ 1 ≤ c ∧ c ≤ 3) := by
  unfold mayB
  simp
  omega
theorem sen41 : senS.ok Try.prog 41 := fun ds r hD hv => by
  obtain ⟨a0, a1, a2, a3, a4, a5, a6, i, j, rfl, h3⟩ := hD
  cases hv
  refine spec_run (lsp := lc) tab_ok noSp_ok 20 (0 + 8) ((t41 0 i j a0 a1 a2 a3 a4 a5 a6).trans ?_)
  unfold senI
  have hw : IntKind.i64.wrap ((0 : Int) + a3) = a3 := by
    unfold is64 at h3
    rw [Int.zero_add]
    exact wrap_fits (by omega) (by omega)
  rw [hw]
  cases (a1 == i) <;> cases (a2 == j) <;> rfl
theorem spJ_ok : ∀ f s, spJ f = some s → s.ok Try.prog f := spAdd_ok net40 (spAdd_ok sen41 (spAdd_ok kept20 noSp_ok))
theorem loop380 (L n : Nat) {ac bs ms qs : List (List DV)} (hB : BK ac bs ms qs) {i t : Nat} (hi : i < ac.length) (ht : t < ac.length) (hit : i ≠ t) (plain spent n0 net a0 a3 a4 a5 a6 : Int) (h3 : 1 ≤ a3 ∧ a3 ≤ 1099511627776) (hn : -4611686018427387904 < n0 ∧ n0 < 7000000000000000000) (hnet : -600000000000000000 < net ∧ net < 600000000000000000) :
    LoopOk (LB tab spJ lc L (n+4) h380 c38l0) (S380 (bk ac bs ms qs) [.int .i64 a0, .int .i64 ((i : Nat) : Int), .int .i64 ((t : Nat) : Int), .int .i64 a3, .int .i64 a4, .int .i64 a5, .int .i64 a6] (i : Nat) plain spent n0 net 0)
      (cond (bilB bs qs i t a3) (.ret, R380) (.ex 0, E380 (bk ac bs ms qs) (i : Nat) plain spent (n0 - a3) (net + a3))) := by
  have hn6 := hB.n6
  have ei : i < bs.length := by rw [hB.lb]; exact hi
  have eq : i < qs.length := by rw [hB.lq]; exact hi
  have z1' : n0 = n0 - cond (decide (t < 0)) a3 0 := by rw [decide_eq_false (by omega)]; show n0 = n0 - 0; omega
  have z2' : net = net + cond (decide (t < 0)) a3 0 := by rw [decide_eq_false (by omega)]; show net = net + 0; omega
  have st0 : S380 (bk ac bs ms qs) [.int .i64 a0, .int .i64 ((i : Nat) : Int), .int .i64 ((t : Nat) : Int), .int .i64 a3, .int .i64 a4, .int .i64 a5, .int .i64 a6] (i : Nat) plain spent n0 net 0 = S380 (bk ac bs ms qs) [.int .i64 a0, .int .i64 ((i : Nat) : Int), .int .i64 ((t : Nat) : Int), .int .i64 a3, .int .i64 a4, .int .i64 a5, .int .i64 a6] (i : Nat) plain spent (n0 - cond (decide (t < 0)) a3 0) (net + cond (decide (t < 0)) a3 0) ((0 : Nat) : Int) := by
    rw [← z1', ← z2']
    rfl
  rw [st0]
  refine loop_meas (fun j : Nat => S380 (bk ac bs ms qs) [.int .i64 a0, .int .i64 ((i : Nat) : Int), .int .i64 ((t : Nat) : Int), .int .i64 a3, .int .i64 a4, .int .i64 a5, .int .i64 a6] (i : Nat) plain spent (n0 - cond (decide (t < j)) a3 0) (net + cond (decide (t < j)) a3 0) (j : Nat)) (fun j => ac.length - j) (fun j => j ≤ ac.length ∧ (t < j → bilB bs qs i t a3 = false)) (fun _ => cond (bilB bs qs i t a3) (.ret, R380) (.ex 0, E380 (bk ac bs ms qs) (i : Nat) plain spent (n0 - a3) (net + a3))) (fun j hs => ?_) 0 ⟨Nat.zero_le _, fun h => by omega⟩
  obtain ⟨g1, g2⟩ := hs
  by_cases hj : j < ac.length
  · have eb : j < (rw bs i).length := by rw [hB.rb i hi]; exact hj
    have eqq : j < (rw qs i).length := by rw [hB.rq i hi]; exact hj
    have n1 : ∀ x y : Int, senS.D [.sl .ro 7 [[.int .i64 a0, .int .i64 ((i : Nat) : Int), .int .i64 ((t : Nat) : Int), .int .i64 a3, .int .i64 a4, .int .i64 a5, .int .i64 a6]], .int .i64 x, .int .i64 y] := fun x y => ⟨_, _, _, _, _, _, _, _, _, rfl, by unfold is64; omega⟩
    have s2 : senI ((i : Nat) : Int) ((t : Nat) : Int) a3 ((j : Nat) : Int) ((i : Nat) : Int) = 0 := by
      unfold senI
      rw [show (((t : Nat) : Int) == ((i : Nat) : Int)) = false from beq_eq_false_iff_ne.2 (by omega)]
      cases (((i : Nat) : Int) == ((j : Nat) : Int)) <;> rfl
    by_cases hjt : j = t
    · subst hjt
      have s1 : senI ((i : Nat) : Int) ((j : Nat) : Int) a3 ((i : Nat) : Int) ((j : Nat) : Int) = a3 := by
        unfold senI
        rw [beq_self_eq_true, beq_self_eq_true]
        rfl
      have hd : decide (j < j) = false := decide_eq_false (by omega)
      have hd2 : decide (j < j + 1) = true := decide_eq_true (by omega)
      have hw0 : IntKind.i64.wrap (a3 - 0) = a3 := by rw [Int.sub_zero]; exact wrap_fits (by omega) (by omega)
      have hq := hB.cq i j hi hj
      have hwp : IntKind.i64.wrap (at2 qs i j + a3) = at2 qs i j + a3 := wrap_fits (by omega) (by omega)
      have hw1 : IntKind.i64.wrap (n0 - 0 - a3) = n0 - a3 := by rw [Int.sub_zero]; exact wrap_fits (by omega) (by omega)
      have hw2 : IntKind.i64.wrap (net + 0 + a3) = net + a3 := by rw [Int.add_zero]; exact wrap_fits (by omega) (by omega)
      have hstep : ∀ k, LB tab spJ lc L (n+4) h380 c38l0 (S380 (bk ac bs ms qs) [.int .i64 a0, .int .i64 ((i : Nat) : Int), .int .i64 ((j : Nat) : Int), .int .i64 a3, .int .i64 a4, .int .i64 a5, .int .i64 a6] (i : Nat) plain spent (n0 - 0) (net + 0) (j : Nat)) k = cond (bilB bs qs i j a3) (k .ret R380) (k .nrm (S380 (bk ac bs ms qs) [.int .i64 a0, .int .i64 ((i : Nat) : Int), .int .i64 ((j : Nat) : Int), .int .i64 a3, .int .i64 a4, .int .i64 a5, .int .i64 a6] (i : Nat) plain spent (n0 - a3) (net + a3) ((j + 1 : Nat) : Int))) := by
        intro k
        rw [s380, lt_dec hj, cond_true, s1, s2, hw0, wrap_succ (by omega), hw1, hw2, decide_eq_true (show a3 > 0 by omega), cond_true]
        simp only [look2 hB.t.b ei eb, look2 hB.t.q eq eqq]
        refine (need_pos (n1 _ _)).trans ((need_pos (n1 _ _)).trans ((need_pos (n1 _ _)).trans ?_))
        show cond (at2 bs i j != -1) (cond (decide (IntKind.i64.wrap (at2 qs i j + a3) > at2 bs i j)) _ _) _ = _
        rw [hwp]
        unfold bilB
        cases (at2 bs i j != -1) <;> cases decide (at2 qs i j + a3 > at2 bs i j) <;> rfl
      simp only [hd, hd2, cond_false, cond_true]
      cases hb : bilB bs qs i j a3 with
      | true =>
        right
        exact ⟨by simp, fun k => by rw [hstep, hb]; rfl⟩
      | false =>
        left
        refine ⟨j + 1, ⟨hj, fun _ => rfl⟩, by omega, trivial, fun k => ?_⟩
        simp only [hd2, cond_true]
        rw [hstep, hb]
        rfl
    · left
      have s1 : senI ((i : Nat) : Int) ((t : Nat) : Int) a3 ((i : Nat) : Int) ((j : Nat) : Int) = 0 := by
        unfold senI
        rw [show (((t : Nat) : Int) == ((j : Nat) : Int)) = false from beq_eq_false_iff_ne.2 (by omega)]
        cases (((i : Nat) : Int) == ((i : Nat) : Int)) <;> rfl
      have hd : decide (t < j + 1) = decide (t < j) := decide_eq_decide.2 (by omega)
      refine ⟨j + 1, ⟨hj, fun h => g2 (by omega)⟩, by omega, rfl, fun k => ?_⟩
      have hx : ∀ b : Bool, IntKind.i64.wrap (n0 - cond b a3 0 - 0) = n0 - cond b a3 0 ∧ IntKind.i64.wrap (net + cond b a3 0 + 0) = net + cond b a3 0 := fun b => by
        cases b
        · exact ⟨wrap_fits (by simp only [cond_false]; omega) (by simp only [cond_false]; omega) |>.trans (by omega), wrap_fits (by simp only [cond_false]; omega) (by simp only [cond_false]; omega) |>.trans (by omega)⟩
        · exact ⟨wrap_fits (by simp only [cond_true]; omega) (by simp only [cond_true]; omega) |>.trans (by omega), wrap_fits (by simp only [cond_true]; omega) (by simp only [cond_true]; omega) |>.trans (by omega)⟩
      simp only [hd]
      rw [s380, lt_dec hj, cond_true, s1, s2, show IntKind.i64.wrap ((0 : Int) - 0) = 0 from rfl, (hx _).1, (hx _).2, wrap_succ (by omega), decide_eq_false (show ¬ (0 : Int) > 0 by omega), cond_false]
      exact (need_pos (n1 _ _)).trans ((need_pos (n1 _ _)).trans (need_pos (n1 _ _)))
  · right
    have hje : j = ac.length := by omega
    subst hje
    have hb := g2 ht
    simp only [hb, decide_eq_true ht, cond_true, cond_false]
    refine ⟨by simp, fun k => ?_⟩
    rw [s380, lt_dec_self]
    rfl
theorem short38 : shoS.ok Try.prog 38 := fun ds r hD hv => by
  obtain ⟨ac, bs, ms, qs, a0, a1, a2, a3, a4, a5, a6, i, rfl, hB, hi, hm⟩ := hD
  cases hv
  rw [mayB_iff] at hm
  obtain ⟨m1, m2, m3, m4, m5, m6, m7, m8, m9⟩ := hm
  refine spec_run (lsp := lc) tab_ok spJ_ok 20 (0 + 8) ((t38 0 ac bs ms qs i a0 a1 a2 a3 a4 a5 a6).trans ?_)
  by_cases hf : a1 = ((i : Nat) : Int)
  · subst hf
    obtain ⟨t, rfl⟩ : ∃ t : Nat, a2 = (t : Int) := ⟨a2.toNat, by omega⟩
    have ht : t < ac.length := by omega
    have eM : i < ms.length := by rw [hB.lm]; exact hi
    have hca := hB.ca i hi
    unfold isA at hca
    obtain ⟨c1, c2, c3, c4, c5, c6⟩ := hca
    obtain ⟨hnD, hnb⟩ := hB.net hi
    have hw : IntKind.i64.wrap ((0 : Int) + a3) = a3 := by rw [Int.zero_add]; exact wrap_fits (by omega) (by omega)
    have hw1 : IntKind.i64.wrap (a3 + 0) = a3 := by rw [Int.add_zero]; exact wrap_fits (by omega) (by omega)
    have hbc : IntKind.i64.wrap (aci ac i 0 + aci ac i 1) = bcI ac i := wrap_fits (by omega) (by omega)
    have hbb : -4611686018427387904 < bcI ac i ∧ bcI ac i < 7000000000000000000 := by unfold bcI; omega
    have hz : (a3 == 0) = false := beq_eq_false_iff_ne.2 (by omega)
    have hk : keptI (aci ac i 2) 0 = aci ac i 2 := by
      unfold keptI
      by_cases h : (0 : Int) ≥ aci ac i 2
      · rw [decide_eq_true h]
        show (0 : Int) = _
        omega
      · rw [decide_eq_false h]
        show aci ac i 2 - 0 = _
        omega
    have nK : keptS.D [.agg [.int .i64 (aci ac i 0), .int .i64 (aci ac i 1), .int .i64 (aci ac i 2)], .int .i64 0] := ⟨_, _, _, _, rfl, hB.ca i hi, by omega, by unfold is64; omega⟩
    have hLp := fun plain spent => loop380 20 (0 + 4) hB hi ht (show i ≠ t by omega) plain spent (bcI ac i) (sumR (rw qs i)) a0 a3 a4 a5 a6 ⟨m6, m7⟩ hbb (by omega)
    have look3 := fun K => look1 hi hB.t.a K
    have lookm := fun K => look1 eM (fun e he => (hB.t.m e he).1) K
    simp only [look3, lookm, Int.toNat_natCast]
    have e0 : (cellA (ac[i]?.getD []) 0).toI = aci ac i 0 := rfl
    have e1 : (cellA (ac[i]?.getD []) 1).toI = aci ac i 1 := rfl
    have e2 : (cellA (ac[i]?.getD []) 2).toI = aci ac i 2 := rfl
    have e3 : (cellA (ms[i]?.getD []) 0).toI = at1 ms i := rfl
    rw [bne_self_eq_false, cond_false, beq_self_eq_true, cond_true]
    simp only [hw, hw1, hz, cond_false, e0, e1, e2, e3, hbc, hk, decide_eq_true (show a3 > 0 by omega), cond_true]
    unfold shB
    have fin : ∀ X : Option DV, X = X := fun _ => rfl
    cases h4 : (a4 == (3 : Int)) with
    | true =>
      refine (need_pos hnD).trans ?_
      have hL := hLp a3 0
      cases hb : bilB bs qs i t a3 with
      | true =>
        rw [hb] at hL
        exact need_pos hL
      | false =>
        rw [hb] at hL
        refine (need_pos hL).trans ?_
        cases decide (bcI ac i - a3 < 0) with
        | true => rfl
        | false =>
          refine (need_pos nK).trans ?_
          cases decide (bcI ac i - a3 < aci ac i 2) <;> cases (at1 ms i != -1) <;> cases decide (sumR (rw qs i) + a3 > at1 ms i) <;> rfl
    | false =>
      refine (need_pos hnD).trans ?_
      have hL := hLp 0 a3
      cases hb : bilB bs qs i t a3 with
      | true =>
        rw [hb] at hL
        exact need_pos hL
      | false =>
        rw [hb] at hL
        refine (need_pos hL).trans ?_
        cases decide (bcI ac i - a3 < 0) <;> cases decide (bcI ac i - a3 < aci ac i 2) <;> cases (at1 ms i != -1) <;> cases decide (sumR (rw qs i) + a3 > at1 ms i) <;> rfl
  · rw [show (a1 != ((i : Nat) : Int)) = true from bne_iff_ne.2 hf, show (a1 == ((i : Nat) : Int)) = false from beq_eq_false_iff_ne.2 hf]
    rfl
theorem spU_ok : ∀ f s, spU f = some s → s.ok Try.prog f := spAdd_ok short38 noSp_ok
end Go.Proofs.Ytakapalpcglfaaa
