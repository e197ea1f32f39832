/- What is known of books and accounts, by the runs. No condition. -/
import Derived.Test.YthjcfiekdejdgaaFa
namespace Go.Proofs.Ythjcfiekdejdgaa
open Go Go.Proofs Go.RowKit Vm
set_option linter.unusedVariables false
set_option linter.unusedSimpArgs false
/-- an account that may be; a number of the kind -/
def isA (a b c : Int) : Prop := -4611686018427387904 < a ∧ a < 4611686018427387904 ∧ 0 ≤ b ∧ b ≤ 2305843009213693952 ∧ 0 ≤ c ∧ c ≤ 2305843009213693952
def is64 (n : Int) : Prop := -9223372036854775808 ≤ n ∧ n ≤ 9223372036854775807
def keptI (c m : Int) : Int := cond (decide (m ≥ c)) 0 (c - m)
def keptS : FSpec where
  D ds := ∃ a b c m, ds = [.agg [.int .i64 a, .int .i64 b, .int .i64 c], .int .i64 m] ∧ isA a b c ∧ 0 ≤ m ∧ is64 m
  val ds := match ds with | [.agg [.int _ a, .int _ b, .int _ c], .int _ m] => some (.int .i64 (keptI c m)) | _ => none
def isB (a b c : Int) : Bool := bif bif bif bif bif decide (a > (-4611686018427387904 : Int)) then decide (a < (4611686018427387904 : Int)) else false then decide (b ≥ (0 : Int)) else false then decide (b ≤ (2305843009213693952 : Int)) else false then decide (c ≥ (0 : Int)) else false then decide (c ≤ (2305843009213693952 : Int)) else false
theorem isB_iff {a b c : Int} : isB a b c = true ↔ isA a b c := by
  unfold isB isA
  simp
  omega
abbrev z1 : List DV := [.int .i64 0]
abbrev z3 : List DV := [.int .i64 0, .int .i64 0, .int .i64 0]
def bk (ac bs ms qs : List (List DV)) : List DV := [.sla false 3 ac, .sla false 1 bs, .sla false 1 ms, .sla false 1 qs]
def cel (e : List DV) : Int := (cellA e 0).toI
def rw (l : List (List DV)) (i : Nat) : List (List DV) := (cellA (l[i]?.getD []) 0).slR
def at2 (l : List (List DV)) (i k : Nat) : Int := cel ((rw l i)[k]?.getD [])
def at1 (l : List (List DV)) (i : Nat) : Int := cel (l[i]?.getD [])
def aci (l : List (List DV)) (i k : Nat) : Int := (cellA (l[i]?.getD []) k).toI
def allF (f : Nat → Bool) : Nat → Nat → Bool
  | 0, _ => true
  | c + 1, i => f i && allF f c (i + 1)
def limB (x : Int) : Bool := bif decide (x ≥ (-1 : Int)) then decide (x ≤ (2305843009213693952 : Int)) else false
def posB (qs : List (List DV)) (i j : Nat) : Bool := !decide (at2 qs i j ≤ (-72057594037927936 : Int)) && (!decide (at2 qs i j ≥ (72057594037927936 : Int)) && !(at2 qs i j != IntKind.i64.wrap ((0 : Int) - at2 qs j i)))
def kOk (bs qs : List (List DV)) (i j : Nat) : Bool := limB (at2 bs i j) && posB qs i j
def iOk (ac bs ms qs : List (List DV)) (n i : Nat) : Bool := isB (aci ac i 0) (aci ac i 1) (aci ac i 2) && (limB (at1 ms i) && allF (kOk bs qs i) n 0)
def lenB (l : List (List DV)) (m : Int) (i : Nat) : Bool := !(((rw l i).length : Int) != m)
def sqB (l : List (List DV)) (m : Nat) : Bool := decide (l.length = m) && allF (lenB l m) m 0
def isBk (ac bs ms qs : List (List DV)) : Bool := decide (1 ≤ ac.length ∧ ac.length ≤ 6) && (sqB bs ac.length && (sqB qs ac.length && (decide (ms.length = ac.length) && allF (iOk ac bs ms qs ac.length) ac.length 0)))
def S240 (es : List (List DV)) (m i : Int) : St := St.of [(0, .d (.sla false 1 es)), (1, .d (.int .i64 m)), (5, .d (.int .i64 i))] []
def S91 (b : List DV) (n i j : Int) : St := St.of [(1, .d (.rptr b 0)), (3, .d (.int .i64 n)), (4, .d (.int .i64 i)), (5, .d (.int .i64 j))] [(1, none)]
def S90 (b : List DV) (n i : Int) : St := St.of [(1, .d (.rptr b 0)), (3, .d (.int .i64 n)), (4, .d (.int .i64 i))] [(1, none)]
def l240 : LSpec := fun st => match st.env 0, st.env 1 with
  | .d (.sla _ _ es), .d (.int _ m) => .br (allF (lenB es m) m.toNat 0) (.one (.ex 0) (St.of [] [])) (.one .ret (St.of [(4, .d (.bool false))] []))
  | _, _ => .no
def l91 : LSpec := fun st => match st.env 1, st.env 3, st.env 4 with
  | .d (.rptr [.sla k1 s1 ac, .sla k2 s2 bs, .sla k3 s3 ms, .sla k4 s4 qs] o), .d (.int q n), .d (.int q' i) => .br (allF (kOk bs qs i.toNat) n.toNat 0) (.one (.ex 2) (St.of [(1, .d (.rptr [.sla k1 s1 ac, .sla k2 s2 bs, .sla k3 s3 ms, .sla k4 s4 qs] o)), (3, .d (.int q n)), (4, .d (.int q' i))] [(1, none)])) (.one .ret (St.of [(2, .d (.bool false))] []))
  | _, _, _ => .no
def l90 : LSpec := fun st => match st.env 1, st.env 3 with
  | .d (.rptr [.sla _ _ ac, .sla _ _ bs, .sla _ _ ms, .sla _ _ qs] _), .d (.int _ n) => .br (allF (iOk ac bs ms qs n.toNat) n.toNat 0) (.one (.ex 0) (St.of [] [])) (.one .ret (St.of [(2, .d (.bool false))] []))
  | _, _ => .no
def la (k : Nat) : Option LSpec := if k = 240 then some l240 else if k = 90 then some l90 else if k = 91 then some l91 else none
def sqS : FSpec where
  D ds := ∃ es m, ds = [.sla false 1 es, .int .i64 ((m : Nat) : Int)] ∧ (∀ e ∈ es, okRow [.nilsl] e = true) ∧ m ≤ 6
  val ds := match ds with | [.sla _ _ es, .int _ m] => some (.bool (sqB es m.toNat)) | _ => none
noncomputable def spSq : FuncId → Option FSpec := spAdd 24 sqS noSp
theorem s240 (L n : Nat) (es : List (List DV)) (m : Int) (i : Nat) (k : Kont) : LB tab noSp la L (n+4) h240 c24l0 (S240 es m i) k =
   (bif decide ((↑i : Int) < m) then
 lookK es[i]? fun (e1 : List DV) =>
 bif okRow [DV.nilsl] e1 then
 bif (↑(cellA e1 0).slR.length : Int) != m then k Ex.ret (St.of [(4, AV.d (DV.bool false))] [])
 else
 k Ex.nrm
 (St.of
 [(0, AV.d (DV.sla false 1 es)), (1, AV.d (DV.int .i64 m)),
 ((5 : Nat), AV.d (DV.int .i64 (IntKind.i64.wrap ((↑i : Int) + (1 : Int)))))]
 [])
 else none
 else k (Ex.ex (0 : Nat)) (St.of [] [])) :=
  (show LB tab noSp la L (n+4) h240 c24l0 (S240 es m i) k =
 (cond (decide ((↑i : Int) < m))
 (lookK (es[(↑i : Int).toNat]?)
 fun e1 =>
 (cond (okRow [DV.nilsl] e1)
 (cond ((↑(cellA e1 0).slR.length : Int) != m)
 (k .ret (St.of [(4, (.d (.bool false)))] []))
 (k .nrm (St.of [(0, (.d (.sla false 1 es))), (1, (.d (.int .i64 m))), (5, (.d (.int .i64 (IntKind.i64.wrap ((↑i : Int) + (1 : Int))))))] [])))
 none))
 (k (.ex 0) (St.of [] []))) from by kernel_rfl).trans (by first | rfl | (simp only [decide_true, decide_false, eq_self, and_true, true_and, and_self, cond_true, cond_false, Nat.le_refl, Int.le_refl, Option.getD_some, Option.getD_none, Int.toNat_natCast, List.take_length, List.drop_zero, Nat.zero_add, List.nil_append, List.all_nil, List.append_nil, Bool.true_and, Bool.and_true, rowsA_sla, rowsA_sl, rowsA_nil, minus_zero, nat_le_cast, nat_nonneg, Option.isSome_some, Option.isSome_none, Bool.false_eq_true, false_and, and_false, if_true, if_false, implies_true, Int.toNat_zero, Bool.not_false, Bool.not_true, bne_self_eq_false]; done) | (simp only [decide_true, decide_false, eq_self, and_true, true_and, and_self, cond_true, cond_false, Nat.le_refl, Int.le_refl, Option.getD_some, Option.getD_none, Int.toNat_natCast, List.take_length, List.drop_zero, Nat.zero_add, List.nil_append, List.all_nil, List.append_nil, Bool.true_and, Bool.and_true, rowsA_sla, rowsA_sl, rowsA_nil, minus_zero, nat_le_cast, nat_nonneg, Option.isSome_some, Option.isSome_none, Bool.false_eq_true, false_and, and_false, if_true, if_false, implies_true, Int.toNat_zero, Bool.not_false, Bool.not_true, bne_self_eq_false]; rfl))
theorem t24 (L n : Nat) (es : List (List DV)) (m : Nat) : FK tab noSp la L (n+8) 24 [.sla false 1 es, .int .i64 ((m : Nat) : Int)] =
   (bif (↑es.length : Int) != (↑m : Int) then some (DV.bool false)
 else
 bif allF (lenB es (↑m : Int)) m (0 : Nat) then
 need
 (LoopOk (LB tab noSp la L (n + (8 : Nat)) h240 c24l0)
 (St.of
 [(0, AV.d (DV.sla false 1 es)), (1, AV.d (DV.int .i64 (↑m : Int))), (5, AV.d (DV.int .i64 0))]
 [])
 (Ex.ex (0 : Nat), St.of [] []))
 (some (DV.bool true))
 else
 need
 (LoopOk (LB tab noSp la L (n + (8 : Nat)) h240 c24l0)
 (St.of
 [(0, AV.d (DV.sla false 1 es)), (1, AV.d (DV.int .i64 (↑m : Int))), (5, AV.d (DV.int .i64 0))]
 [])
 (Ex.ret, St.of [(4, AV.d (DV.bool false))] []))
 (some (DV.bool false))) :=
  (show FK tab noSp la L (n+8) 24 [.sla false 1 es, .int .i64 ((m : Nat) : Int)] =
 (cond ((↑es.length : Int) != (↑m : Int))
 (some (.bool false))
 (cond (allF (lenB es (↑m : Int)) (↑m : Int).toNat (0 : Nat))
 (need (LoopOk (LB tab noSp la L (n + (8 : Nat)) h240 c24l0) (St.of [(0, (.d (.sla false 1 es))), (1, (.d (.int .i64 ((↑m : Int))))), (5, (.d (.int .i64 ((0 : Int)))))] []) ((.ex 0), (St.of [] [])))
 (some (.bool true)))
 (need (LoopOk (LB tab noSp la L (n + (8 : Nat)) h240 c24l0) (St.of [(0, (.d (.sla false 1 es))), (1, (.d (.int .i64 ((↑m : Int))))), (5, (.d (.int .i64 ((0 : Int)))))] []) (.ret, (St.of [(4, (.d (.bool false)))] [])))
 (some (.bool false))))) from by kernel_rfl).trans (by first | rfl | (simp only [decide_true, decide_false, eq_self, and_true, true_and, and_self, cond_true, cond_false, Nat.le_refl, Int.le_refl, Option.getD_some, Option.getD_none, Int.toNat_natCast, List.take_length, List.drop_zero, Nat.zero_add, List.nil_append, List.all_nil, List.append_nil, Bool.true_and, Bool.and_true, rowsA_sla, rowsA_sl, rowsA_nil, minus_zero, nat_le_cast, nat_nonneg, Option.isSome_some, Option.isSome_none, Bool.false_eq_true, false_and, and_false, if_true, if_false, implies_true, Int.toNat_zero, Bool.not_false, Bool.not_true, bne_self_eq_false]; done) | (simp only [decide_true, decide_false, eq_self, and_true, true_and, and_self, cond_true, cond_false, Nat.le_refl, Int.le_refl, Option.getD_some, Option.getD_none, Int.toNat_natCast, List.take_length, List.drop_zero, Nat.zero_add, List.nil_append, List.all_nil, List.append_nil, Bool.true_and, Bool.and_true, rowsA_sla, rowsA_sl, rowsA_nil, minus_zero, nat_le_cast, nat_nonneg, Option.isSome_some, Option.isSome_none, Bool.false_eq_true, false_and, and_false, if_true, if_false, implies_true, Int.toNat_zero, Bool.not_false, Bool.not_true, bne_self_eq_false]; rfl))
theorem s91 (L n : Nat) (ac bs ms qs : List (List DV)) (m i j : Nat) (k : Kont) : LB tab spSq la L (n+4) h91 c9l1 (S91 (bk ac bs ms qs) m i j) k =
   (bif decide ((↑j : Int) < (↑m : Int)) then
 lookK bs[i]? fun (e1 : List DV) =>
 bif okRow [DV.nilsl] e1 then
 bif decide ((1 : Nat) = (cellA e1 0).slZ) then
 lookK (cellA e1 0).slR[j]? fun (e5 : List DV) =>
 bif okRow [DV.int .i64 0] e5 then
 bif !bif decide ((cellA e5 0).toI ≥ (-1 : Int)) then decide ((cellA e5 0).toI ≤ (2305843009213693952 : Int)) else false then
 k Ex.ret (St.of [(2, AV.d (DV.bool false))] [])
 else
 lookK qs[i]? fun (e9 : List DV) =>
 bif okRow [DV.nilsl] e9 then
 bif decide ((1 : Nat) = (cellA e9 0).slZ) then
 lookK (cellA e9 0).slR[j]? fun (e13 : List DV) =>
 bif okRow [DV.int .i64 0] e13 then
 bif decide ((cellA e13 0).toI ≤ (-72057594037927936 : Int)) then k Ex.ret (St.of [(2, AV.d (DV.bool false))] [])
 else
 lookK qs[i]? fun (e17 : List DV) =>
 bif okRow [DV.nilsl] e17 then
 bif decide ((1 : Nat) = (cellA e17 0).slZ) then
 lookK (cellA e17 0).slR[j]? fun (e21 : List DV) =>
 bif okRow [DV.int .i64 0] e21 then
 bif decide ((cellA e21 0).toI ≥ (72057594037927936 : Int)) then
 k Ex.ret (St.of [(2, AV.d (DV.bool false))] [])
 else
 lookK qs[i]? fun (e25 : List DV) =>
 bif okRow [DV.nilsl] e25 then
 bif decide ((1 : Nat) = (cellA e25 0).slZ) then
 lookK (cellA e25 0).slR[j]? fun (e29 : List DV) =>
 bif okRow [DV.int .i64 0] e29 then
 lookK qs[j]? fun (e32 : List DV) =>
 bif okRow [DV.nilsl] e32 then
 bif decide ((1 : Nat) = (cellA e32 0).slZ) then
 lookK (cellA e32 0).slR[i]? fun (e36 : List DV) =>
 bif okRow [DV.int .i64 0] e36 then
 bif (cellA e29 0).toI != IntKind.i64.wrap ((0 : Int) - (cellA e36 0).toI) then
 k Ex.ret (St.of [(2, AV.d (DV.bool false))] [])
 else
 k Ex.nrm
 (St.of
 [((1 : Nat),
 AV.d
 (DV.rptr
 [DV.sla false 3 ac, DV.sla false 1 bs, DV.sla false 1 ms,
 DV.sla false 1 qs]
 (0 : Nat))),
 ((3 : Nat), AV.d (DV.int .i64 (↑m : Int))),
 ((4 : Nat), AV.d (DV.int .i64 (↑i : Int))),
 ((5 : Nat), AV.d (DV.int .i64 (IntKind.i64.wrap ((↑j : Int) + (1 : Int)))))]
 [(1, none)])
 else none
 else none
 else none
 else none
 else none
 else none
 else none
 else none
 else none
 else none
 else none
 else none
 else none
 else none
 else none
 else
 k (Ex.ex (2 : Nat))
 (St.of
 [(1, AV.d (DV.rptr [DV.sla false 3 ac, DV.sla false 1 bs, DV.sla false 1 ms, DV.sla false 1 qs] (0 : Nat))),
 ((3 : Nat), AV.d (DV.int .i64 (↑m : Int))), (4, AV.d (DV.int .i64 (↑i : Int)))]
 [(1, none)])) :=
  (show LB tab spSq la L (n+4) h91 c9l1 (S91 (bk ac bs ms qs) m i j) k =
 (cond (decide ((↑j : Int) < (↑m : Int)))
 (lookK (bs[(↑i : Int).toNat]?)
 fun e1 =>
 (cond (okRow [DV.nilsl] e1)
 (cond (decide ((1 : Nat) = (cellA e1 0).slZ))
 (lookK ((cellA e1 0).slR[(↑j : Int).toNat]?)
 fun e5 =>
 (cond (okRow [DV.int .i64 0] e5)
 (cond (!bif decide ((cellA e5 0).toI ≥ (-1 : Int)) then decide ((cellA e5 0).toI ≤ (2305843009213693952 : Int)) else false)
 (k .ret (St.of [(2, (.d (.bool false)))] []))
 (lookK (qs[(↑i : Int).toNat]?)
 fun e9 =>
 (cond (okRow [DV.nilsl] e9)
 (cond (decide ((1 : Nat) = (cellA e9 0).slZ))
 (lookK ((cellA e9 0).slR[(↑j : Int).toNat]?)
 fun e13 =>
 (cond (okRow [DV.int .i64 0] e13)
 (cond (decide ((cellA e13 0).toI ≤ (-72057594037927936 : Int)))
 (k .ret (St.of [(2, (.d (.bool false)))] []))
 (lookK (qs[(↑i : Int).toNat]?)
 fun e17 =>
 (cond (okRow [DV.nilsl] e17)
 (cond (decide ((1 : Nat) = (cellA e17 0).slZ))
 (lookK ((cellA e17 0).slR[(↑j : Int).toNat]?)
 fun e21 =>
 (cond (okRow [DV.int .i64 0] e21)
 (cond (decide ((cellA e21 0).toI ≥ (72057594037927936 : Int)))
 (k .ret (St.of [(2, (.d (.bool false)))] []))
 (lookK (qs[(↑i : Int).toNat]?)
 fun e25 =>
 (cond (okRow [DV.nilsl] e25)
 (cond (decide ((1 : Nat) = (cellA e25 0).slZ))
 (lookK ((cellA e25 0).slR[(↑j : Int).toNat]?)
 fun e29 =>
 (cond (okRow [DV.int .i64 0] e29)
 (lookK (qs[(↑j : Int).toNat]?)
 fun e32 =>
 (cond (okRow [DV.nilsl] e32)
 (cond (decide ((1 : Nat) = (cellA e32 0).slZ))
 (lookK ((cellA e32 0).slR[(↑i : Int).toNat]?)
 fun e36 =>
 (cond (okRow [DV.int .i64 0] e36)
 (cond ((cellA e29 0).toI != IntKind.i64.wrap ((0 : Int) - (cellA e36 0).toI))
 (k .ret (St.of [(2, (.d (.bool false)))] []))
 (k .nrm (St.of [(1, (.d (.rptr [(.sla false 3 ac), (.sla false 1 bs), (.sla false 1 ms), (.sla false 1 qs)] 0))), (3, (.d (.int .i64 ((↑m : Int))))), (4, (.d (.int .i64 ((↑i : Int))))), (5, (.d (.int .i64 (IntKind.i64.wrap ((↑j : Int) + (1 : Int))))))] [(1, .none)])))
 none))
 none)
 none))
 none))
 none)
 none)))
 none))
 none)
 none)))
 none))
 none)
 none)))
 none))
 none)
 none))
 (k (.ex 2) (St.of [(1, (.d (.rptr [(.sla false 3 ac), (.sla false 1 bs), (.sla false 1 ms), (.sla false 1 qs)] 0))), (3, (.d (.int .i64 ((↑m : Int))))), (4, (.d (.int .i64 ((↑i : Int)))))] [(1, .none)]))) from by kernel_rfl).trans (by first | rfl | (simp only [decide_true, decide_false, eq_self, and_true, true_and, and_self, cond_true, cond_false, Nat.le_refl, Int.le_refl, Option.getD_some, Option.getD_none, Int.toNat_natCast, List.take_length, List.drop_zero, Nat.zero_add, List.nil_append, List.all_nil, List.append_nil, Bool.true_and, Bool.and_true, rowsA_sla, rowsA_sl, rowsA_nil, minus_zero, nat_le_cast, nat_nonneg, Option.isSome_some, Option.isSome_none, Bool.false_eq_true, false_and, and_false, if_true, if_false, implies_true, Int.toNat_zero, Bool.not_false, Bool.not_true, bne_self_eq_false]; done) | (simp only [decide_true, decide_false, eq_self, and_true, true_and, and_self, cond_true, cond_false, Nat.le_refl, Int.le_refl, Option.getD_some, Option.getD_none, Int.toNat_natCast, List.take_length, List.drop_zero, Nat.zero_add, List.nil_append, List.all_nil, List.append_nil, Bool.true_and, Bool.and_true, rowsA_sla, rowsA_sl, rowsA_nil, minus_zero, nat_le_cast, nat_nonneg, Option.isSome_some, Option.isSome_none, Bool.false_eq_true, false_and, and_false, if_true, if_false, implies_true, Int.toNat_zero, Bool.not_false, Bool.not_true, bne_self_eq_false]; rfl))
theorem s90 (L n : Nat) (ac bs ms qs : List (List DV)) (m i : Nat) (k : Kont) : LB tab spSq la L (n+4) h90 c9l0 (S90 (bk ac bs ms qs) m i) k =
   (bif decide ((↑i : Int) < (↑m : Int)) then
 lookK ac[i]? fun (e1 : List DV) =>
 bif okRow [DV.int .i64 0, DV.int .i64 0, DV.int .i64 0] e1 then
 bif
 !bif
 bif
 bif
 bif
 bif decide ((cellA e1 0).toI > (-4611686018427387904 : Int)) then
 decide ((cellA e1 0).toI < (4611686018427387904 : Int))
 else false then
 decide ((cellA e1 1).toI ≥ (0 : Int))
 else false then
 decide ((cellA e1 1).toI ≤ (2305843009213693952 : Int))
 else false then
 decide ((cellA e1 2).toI ≥ (0 : Int))
 else false then
 decide ((cellA e1 2).toI ≤ (2305843009213693952 : Int))
 else false then
 k Ex.ret (St.of [(2, AV.d (DV.bool false))] [])
 else
 lookK ms[i]? fun (e5 : List DV) =>
 bif okRow [DV.int .i64 0] e5 then
 bif !bif decide ((cellA e5 0).toI ≥ (-1 : Int)) then decide ((cellA e5 0).toI ≤ (2305843009213693952 : Int)) else false then
 k Ex.ret (St.of [(2, AV.d (DV.bool false))] [])
 else
 bif allF (kOk bs qs i) m (0 : Nat) then
 need
 (LoopOk (LB tab spSq la L (n + (4 : Nat)) h91 c9l1)
 (St.of
 [((1 : Nat),
 AV.d
 (DV.rptr [DV.sla false 3 ac, DV.sla false 1 bs, DV.sla false 1 ms, DV.sla false 1 qs]
 (0 : Nat))),
 ((3 : Nat), AV.d (DV.int .i64 (↑m : Int))), (4, AV.d (DV.int .i64 (↑i : Int))),
 ((5 : Nat), AV.d (DV.int .i64 0))]
 [(1, none)])
 (Ex.ex (2 : Nat),
 St.of
 [((1 : Nat),
 AV.d
 (DV.rptr [DV.sla false 3 ac, DV.sla false 1 bs, DV.sla false 1 ms, DV.sla false 1 qs]
 (0 : Nat))),
 ((3 : Nat), AV.d (DV.int .i64 (↑m : Int))), (4, AV.d (DV.int .i64 (↑i : Int)))]
 [(1, none)]))
 (k Ex.nrm
 (St.of
 [((1 : Nat),
 AV.d
 (DV.rptr [DV.sla false 3 ac, DV.sla false 1 bs, DV.sla false 1 ms, DV.sla false 1 qs]
 (0 : Nat))),
 ((3 : Nat), AV.d (DV.int .i64 (↑m : Int))), (4, AV.d (DV.int .i64 (IntKind.i64.wrap ((↑i : Int) + (1 : Int)))))]
 [(1, none)]))
 else
 need
 (LoopOk (LB tab spSq la L (n + (4 : Nat)) h91 c9l1)
 (St.of
 [((1 : Nat),
 AV.d
 (DV.rptr [DV.sla false 3 ac, DV.sla false 1 bs, DV.sla false 1 ms, DV.sla false 1 qs]
 (0 : Nat))),
 ((3 : Nat), AV.d (DV.int .i64 (↑m : Int))), (4, AV.d (DV.int .i64 (↑i : Int))),
 ((5 : Nat), AV.d (DV.int .i64 0))]
 [(1, none)])
 (Ex.ret, St.of [(2, AV.d (DV.bool false))] []))
 (k Ex.ret (St.of [(2, AV.d (DV.bool false))] []))
 else none
 else none
 else k (Ex.ex (0 : Nat)) (St.of [] [])) :=
  (show LB tab spSq la L (n+4) h90 c9l0 (S90 (bk ac bs ms qs) m i) k =
 (cond (decide ((↑i : Int) < (↑m : Int)))
 (lookK (ac[(↑i : Int).toNat]?)
 fun e1 =>
 (cond (okRow [DV.int .i64 0, DV.int .i64 0, DV.int .i64 0] e1)
 (cond (!bif bif bif bif bif decide ((cellA e1 0).toI > (-4611686018427387904 : Int)) then decide ((cellA e1 0).toI < (4611686018427387904 : Int)) else false then decide ((cellA e1 1).toI ≥ (0 : Int)) else false then decide ((cellA e1 1).toI ≤ (2305843009213693952 : Int)) else false then decide ((cellA e1 2).toI ≥ (0 : Int)) else false then decide ((cellA e1 2).toI ≤ (2305843009213693952 : Int)) else false)
 (k .ret (St.of [(2, (.d (.bool false)))] []))
 (lookK (ms[(↑i : Int).toNat]?)
 fun e5 =>
 (cond (okRow [DV.int .i64 0] e5)
 (cond (!bif decide ((cellA e5 0).toI ≥ (-1 : Int)) then decide ((cellA e5 0).toI ≤ (2305843009213693952 : Int)) else false)
 (k .ret (St.of [(2, (.d (.bool false)))] []))
 (cond (allF (kOk bs qs (↑i : Int).toNat) (↑m : Int).toNat (0 : Nat))
 (need (LoopOk (LB tab spSq la L (n + (4 : Nat)) h91 c9l1) (St.of [(1, (.d (.rptr [(.sla false 3 ac), (.sla false 1 bs), (.sla false 1 ms), (.sla false 1 qs)] 0))), (3, (.d (.int .i64 ((↑m : Int))))), (4, (.d (.int .i64 ((↑i : Int))))), (5, (.d (.int .i64 ((0 : Int)))))] [(1, .none)]) ((.ex 2), (St.of [(1, (.d (.rptr [(.sla false 3 ac), (.sla false 1 bs), (.sla false 1 ms), (.sla false 1 qs)] 0))), (3, (.d (.int .i64 ((↑m : Int))))), (4, (.d (.int .i64 ((↑i : Int)))))] [(1, .none)])))
 (k .nrm (St.of [(1, (.d (.rptr [(.sla false 3 ac), (.sla false 1 bs), (.sla false 1 ms), (.sla false 1 qs)] 0))), (3, (.d (.int .i64 ((↑m : Int))))), (4, (.d (.int .i64 (IntKind.i64.wrap ((↑i : Int) + (1 : Int))))))] [(1, .none)])))
 (need (LoopOk (LB tab spSq la L (n + (4 : Nat)) h91 c9l1) (St.of [(1, (.d (.rptr [(.sla false 3 ac), (.sla false 1 bs), (.sla false 1 ms), (.sla false 1 qs)] 0))), (3, (.d (.int .i64 ((↑m : Int))))), (4, (.d (.int .i64 ((↑i : Int))))), (5, (.d (.int .i64 ((0 : Int)))))] [(1, .none)]) (.ret, (St.of [(2, (.d (.bool false)))] [])))
 (k .ret (St.of [(2, (.d (.bool false)))] [])))))
 none)))
 none))
 (k (.ex 0) (St.of [] []))) from by kernel_rfl).trans (by first | rfl | (simp only [decide_true, decide_false, eq_self, and_true, true_and, and_self, cond_true, cond_false, Nat.le_refl, Int.le_refl, Option.getD_some, Option.getD_none, Int.toNat_natCast, List.take_length, List.drop_zero, Nat.zero_add, List.nil_append, List.all_nil, List.append_nil, Bool.true_and, Bool.and_true, rowsA_sla, rowsA_sl, rowsA_nil, minus_zero, nat_le_cast, nat_nonneg, Option.isSome_some, Option.isSome_none, Bool.false_eq_true, false_and, and_false, if_true, if_false, implies_true, Int.toNat_zero, Bool.not_false, Bool.not_true, bne_self_eq_false]; done) | (simp only [decide_true, decide_false, eq_self, and_true, true_and, and_self, cond_true, cond_false, Nat.le_refl, Int.le_refl, Option.getD_some, Option.getD_none, Int.toNat_natCast, List.take_length, List.drop_zero, Nat.zero_add, List.nil_append, List.all_nil, List.append_nil, Bool.true_and, Bool.and_true, rowsA_sla, rowsA_sl, rowsA_nil, minus_zero, nat_le_cast, nat_nonneg, Option.isSome_some, Option.isSome_none, Bool.false_eq_true, false_and, and_false, if_true, if_false, implies_true, Int.toNat_zero, Bool.not_false, Bool.not_true, bne_self_eq_false]; rfl))
theorem t9 (L n : Nat) (ac bs ms qs : List (List DV)) : FK tab spSq la L (n+8) 9 [.agg (bk ac bs ms qs)] =
   (bif bif decide ((↑ac.length : Int) < (1 : Int)) then true else decide ((↑ac.length : Int) > (6 : Int)) then some (DV.bool false)
 else
 need (sqS.D [DV.sla false 1 bs, DV.int .i64 (↑ac.length : Int)])
 (bif !sqB bs ac.length then some (DV.bool false)
 else
 need (sqS.D [DV.sla false 1 qs, DV.int .i64 (↑ac.length : Int)])
 (bif bif !sqB qs ac.length then true else (↑ms.length : Int) != (↑ac.length : Int) then some (DV.bool false)
 else
 bif allF (iOk ac bs ms qs ac.length) ac.length (0 : Nat) then
 need
 (LoopOk (LB tab spSq la L (n + (8 : Nat)) h90 c9l0)
 (St.of
 [((1 : Nat),
 AV.d
 (DV.rptr [DV.sla false 3 ac, DV.sla false 1 bs, DV.sla false 1 ms, DV.sla false 1 qs] (0 : Nat))),
 ((3 : Nat), AV.d (DV.int .i64 (↑ac.length : Int))), (4, AV.d (DV.int .i64 0))]
 [(1, none)])
 (Ex.ex (0 : Nat), St.of [] []))
 (some (DV.bool true))
 else
 need
 (LoopOk (LB tab spSq la L (n + (8 : Nat)) h90 c9l0)
 (St.of
 [((1 : Nat),
 AV.d
 (DV.rptr [DV.sla false 3 ac, DV.sla false 1 bs, DV.sla false 1 ms, DV.sla false 1 qs] (0 : Nat))),
 ((3 : Nat), AV.d (DV.int .i64 (↑ac.length : Int))), (4, AV.d (DV.int .i64 0))]
 [(1, none)])
 (Ex.ret, St.of [(2, AV.d (DV.bool false))] []))
 (some (DV.bool false))))) :=
  (show FK tab spSq la L (n+8) 9 [.agg (bk ac bs ms qs)] =
 (cond (bif decide ((↑ac.length : Int) < (1 : Int)) then true else decide ((↑ac.length : Int) > (6 : Int)))
 (some (.bool false))
 (need (FSpec.D (sqS) [(.sla false 1 bs), (.int .i64 ((↑ac.length : Int)))])
 (cond (!sqB bs (↑ac.length : Int).toNat)
 (some (.bool false))
 (need (FSpec.D (sqS) [(.sla false 1 qs), (.int .i64 ((↑ac.length : Int)))])
 (cond (bif !sqB qs (↑ac.length : Int).toNat then true else (↑ms.length : Int) != (↑ac.length : Int))
 (some (.bool false))
 (cond (allF (iOk ac bs ms qs (↑ac.length : Int).toNat) (↑ac.length : Int).toNat (0 : Nat))
 (need (LoopOk (LB tab spSq la L (n + (8 : Nat)) h90 c9l0) (St.of [(1, (.d (.rptr [(.sla false 3 ac), (.sla false 1 bs), (.sla false 1 ms), (.sla false 1 qs)] 0))), (3, (.d (.int .i64 ((↑ac.length : Int))))), (4, (.d (.int .i64 ((0 : Int)))))] [(1, .none)]) ((.ex 0), (St.of [] [])))
 (some (.bool true)))
 (need (LoopOk (LB tab spSq la L (n + (8 : Nat)) h90 c9l0) (St.of [(1, (.d (.rptr [(.sla false 3 ac), (.sla false 1 bs), (.sla false 1 ms), (.sla false 1 qs)] 0))), (3, (.d (.int .i64 ((↑ac.length : Int))))), (4, (.d (.int .i64 ((0 : Int)))))] [(1, .none)]) (.ret, (St.of [(2, (.d (.bool false)))] [])))
 (some (.bool false))))))))) from by kernel_rfl).trans (by first | rfl | (simp only [decide_true, decide_false, eq_self, and_true, true_and, and_self, cond_true, cond_false, Nat.le_refl, Int.le_refl, Option.getD_some, Option.getD_none, Int.toNat_natCast, List.take_length, List.drop_zero, Nat.zero_add, List.nil_append, List.all_nil, List.append_nil, Bool.true_and, Bool.and_true, rowsA_sla, rowsA_sl, rowsA_nil, minus_zero, nat_le_cast, nat_nonneg, Option.isSome_some, Option.isSome_none, Bool.false_eq_true, false_and, and_false, if_true, if_false, implies_true, Int.toNat_zero, Bool.not_false, Bool.not_true, bne_self_eq_false]; done) | (simp only [decide_true, decide_false, eq_self, and_true, true_and, and_self, cond_true, cond_false, Nat.le_refl, Int.le_refl, Option.getD_some, Option.getD_none, Int.toNat_natCast, List.take_length, List.drop_zero, Nat.zero_add, List.nil_append, List.all_nil, List.append_nil, Bool.true_and, Bool.and_true, rowsA_sla, rowsA_sl, rowsA_nil, minus_zero, nat_le_cast, nat_nonneg, Option.isSome_some, Option.isSome_none, Bool.false_eq_true, false_and, and_false, if_true, if_false, implies_true, Int.toNat_zero, Bool.not_false, Bool.not_true, bne_self_eq_false]; rfl))
/-- a loop that goes on while a test of its number holds -/
theorem loop_allF {f : St → Kont → Option DV} (st : Nat → St) (q : Nat → Bool) (n : Nat) (out bad : Ex × St) (h1 : out.1 ≠ .nrm) (h2 : bad.1 ≠ .nrm)
    (hstep : ∀ i, i < n → ∀ k, f (st i) k = cond (q i) (k .nrm (st (i + 1))) (k bad.1 bad.2))
    (hend : ∀ k, f (st n) k = k out.1 out.2) : LoopOk f (st 0) (cond (allF q n 0) out bad) := by
  refine loop_meas st (fun i => n - i) (fun i => i ≤ n ∧ allF q n 0 = allF q (n - i) i) (fun _ => cond (allF q n 0) out bad) (fun i hs => ?_) 0 ⟨Nat.zero_le _, rfl⟩
  obtain ⟨h3, h4⟩ := hs
  by_cases hi : i < n
  · obtain ⟨c, hc⟩ : ∃ c, n - i = c + 1 := ⟨n - i - 1, by omega⟩
    have hc' : n - (i + 1) = c := by omega
    cases hq : q i with
    | true =>
      left
      refine ⟨i + 1, ⟨hi, ?_⟩, by omega, rfl, fun k => by rw [hstep i hi, hq]; rfl⟩
      rw [h4, hc, hc']
      show (q i && allF q c (i + 1)) = _
      rw [hq, Bool.true_and]
    | false =>
      right
      have : allF q n 0 = false := by
        rw [h4, hc]
        show (q i && allF q c (i + 1)) = _
        rw [hq, Bool.false_and]
      rw [this]
      exact ⟨h2, fun k => by rw [hstep i hi, hq]; rfl⟩
  · right
    have hin : i = n := by omega
    subst hin
    have : allF q i 0 = true := by rw [h4, Nat.sub_self]; rfl
    rw [this]
    exact ⟨h1, hend⟩
theorem allF_at {q : Nat → Bool} : ∀ {c i : Nat}, allF q c i = true → ∀ j, i ≤ j → j < i + c → q j = true
  | 0, i, _, j, h1, h2 => by omega
  | c + 1, i, h, j, h1, h2 => by
    have h' := Bool.and_eq_true_iff.1 (show (q i && allF q c (i + 1)) = true from h)
    by_cases hj : j = i
    · subst hj
      exact h'.1
    · exact allF_at h'.2 j (by omega) (by omega)
def Mat (l : List (List DV)) : Prop := ∀ e ∈ l, okRow [.nilsl] e = true ∧ (cellA e 0).slZ = 1 ∧ ∀ r ∈ (cellA e 0).slR, okRow z1 r = true ∧ is64 (cel r)
structure TY (ac bs ms qs : List (List DV)) : Prop where
  a : ∀ e ∈ ac, okRow z3 e = true
  b : Mat bs
  m : ∀ e ∈ ms, okRow z1 e = true ∧ is64 (cel e)
  q : Mat qs
theorem getD_at {l : List (List DV)} {i : Nat} (hi : i < l.length) : l[i]?.getD [] = l[i] := by rw [List.getElem?_eq_getElem hi]; rfl
theorem rw_at {l : List (List DV)} {i : Nat} (hi : i < l.length) : rw l i = (cellA l[i] 0).slR := by unfold rw; rw [getD_at hi]
/-- a number of a square is looked up -/
theorem look2 {l : List (List DV)} (hM : Mat l) {i j : Nat} (hi : i < l.length) (hj : j < (rw l i).length) (K : List DV → Option DV) :
    (lookK l[i]? fun e => cond (okRow [DV.nilsl] e) (cond (decide (1 = (cellA e 0).slZ)) (lookK (cellA e 0).slR[j]? fun r => cond (okRow [DV.int .i64 0] r) (K r) none) none) none) = K ((rw l i)[j]?.getD []) := by
  obtain ⟨h1, h2, h3⟩ := hM _ (List.getElem_mem hi)
  rw [look_nat hi, h1, cond_true, decide_eq_true h2.symm, cond_true]
  rw [getD_at hj]
  have e := rw_at hi
  have hj' : j < (cellA l[i] 0).slR.length := by rw [← e]; exact hj
  rw [look_nat hj', (h3 _ (List.getElem_mem hj')).1, cond_true]
  congr 1
  simp only [e]
theorem look1 {l : List (List DV)} {z : List DV} {i : Nat} (hi : i < l.length) (hz : ∀ e ∈ l, okRow z e = true) (K : List DV → Option DV) : (lookK l[i]? fun e => cond (okRow z e) (K e) none) = K (l[i]?.getD []) := by
  rw [look_nat hi, hz _ (List.getElem_mem hi), cond_true, getD_at hi]
theorem loop240 (L n : Nat) {es : List (List DV)} (hz : ∀ e ∈ es, okRow [.nilsl] e = true) {m : Nat} (hm : m ≤ 6) (hl : es.length = m) :
    LoopOk (LB tab noSp la L (n+4) h240 c24l0) (S240 es (m : Nat) 0) (cond (allF (lenB es (m : Nat)) m 0) (.ex 0, St.of [] []) (.ret, St.of [(4, .d (.bool false))] [])) := by
  refine loop_allF (fun i : Nat => S240 es (m : Nat) (i : Nat)) _ m _ _ (by simp) (by simp) (fun i hi k => ?_) (fun k => ?_)
  · have hi' : i < es.length := by omega
    rw [s240, lt_dec hi, cond_true, look_nat hi', hz _ (List.getElem_mem hi'), cond_true, wrap_succ (by omega)]
    unfold lenB
    rw [rw_at hi']
    cases (((cellA es[i] 0).slR.length : Int) != ((m : Nat) : Int)) <;> rfl
  · rw [s240, lt_dec_self]
    rfl
theorem sq24 : sqS.ok Try.prog 24 := fun ds r hD hv => by
  obtain ⟨es, m, rfl, hz, hm⟩ := hD
  cases hv
  refine spec_run (lsp := la) tab_ok noSp_ok 20 (0 + 8) ((t24 20 0 es m).trans ?_)
  unfold sqB
  rw [Int.toNat_natCast]
  by_cases hl : es.length = m
  · have h := loop240 20 (0 + 4) hz hm hl
    rw [decide_eq_true hl, Bool.true_and, show (((es.length : Nat) : Int) != ((m : Nat) : Int)) = false by rw [hl]; exact bne_self_eq_false _, cond_false]
    cases ha : allF (lenB es (m : Nat)) m 0 with
    | true =>
      rw [ha] at h
      exact need_pos h
    | false =>
      rw [ha] at h
      exact need_pos h
  · rw [decide_eq_false hl, show (((es.length : Nat) : Int) != ((m : Nat) : Int)) = true from bne_iff_ne.2 (by omega)]
    rfl
theorem spSq_ok : ∀ f s, spSq f = some s → s.ok Try.prog f := spAdd_ok sq24 noSp_ok
theorem loop91 (L n : Nat) {ac bs ms qs : List (List DV)} (hT : TY ac bs ms qs) {m : Nat} (hm : m ≤ 6) (hb : sqB bs m = true) (hq : sqB qs m = true) {i : Nat} (hi : i < m) :
    LoopOk (LB tab spSq la L (n+4) h91 c9l1) (S91 (bk ac bs ms qs) m i 0) (cond (allF (kOk bs qs i) m 0) (.ex 2, S90 (bk ac bs ms qs) m i) (.ret, St.of [(2, .d (.bool false))] [])) := by
  obtain ⟨b1, b2⟩ := Bool.and_eq_true_iff.1 hb
  obtain ⟨q1, q2⟩ := Bool.and_eq_true_iff.1 hq
  have b1 := of_decide_eq_true b1
  have q1 := of_decide_eq_true q1
  have hbl : ∀ i, i < m → (rw bs i).length = m := fun i hi => by
    have := allF_at b2 i (by omega) (by omega)
    unfold lenB at this
    have := bne_eq_false_iff_eq.1 (Bool.not_eq_true' _ ▸ this)
    omega
  have hql : ∀ i, i < m → (rw qs i).length = m := fun i hi => by
    have := allF_at q2 i (by omega) (by omega)
    unfold lenB at this
    have := bne_eq_false_iff_eq.1 (Bool.not_eq_true' _ ▸ this)
    omega
  refine loop_allF (fun j : Nat => S91 (bk ac bs ms qs) m i (j : Nat)) _ m _ _ (by simp) (by simp) (fun j hj k => ?_) (fun k => ?_)
  · have e1 : i < bs.length := by omega
    have e2 : i < qs.length := by omega
    have e3 : j < qs.length := by omega
    have e4 : j < (rw bs i).length := by rw [hbl i hi]; exact hj
    have e5 : j < (rw qs i).length := by rw [hql i hi]; exact hj
    have e6 : i < (rw qs j).length := by rw [hql j hj]; exact hi
    rw [s91, lt_dec hj, cond_true, wrap_succ (by omega)]
    simp only [look2 hT.b e1 e4, look2 hT.q e2 e5, look2 hT.q e3 e6]
    unfold kOk
    show cond (!limB (at2 bs i j)) _ (cond (decide (at2 qs i j ≤ (-72057594037927936 : Int))) _ (cond (decide (at2 qs i j ≥ (72057594037927936 : Int))) _ (cond (at2 qs i j != IntKind.i64.wrap ((0 : Int) - at2 qs j i)) _ _))) = _
    unfold posB
    cases limB (at2 bs i j) <;> cases decide (at2 qs i j ≤ (-72057594037927936 : Int)) <;> cases decide (at2 qs i j ≥ (72057594037927936 : Int)) <;> cases (at2 qs i j != IntKind.i64.wrap ((0 : Int) - at2 qs j i)) <;> rfl
  · rw [s91, lt_dec_self]
    rfl
theorem loop90 (L n : Nat) {ac bs ms qs : List (List DV)} (hT : TY ac bs ms qs) {m : Nat} (hm : m ≤ 6) (ha : ac.length = m) (hl : ms.length = m) (hb : sqB bs m = true) (hq : sqB qs m = true) :
    LoopOk (LB tab spSq la L (n+4) h90 c9l0) (S90 (bk ac bs ms qs) m 0) (cond (allF (iOk ac bs ms qs m) m 0) (.ex 0, St.of [] []) (.ret, St.of [(2, .d (.bool false))] [])) := by
  refine loop_allF (fun i : Nat => S90 (bk ac bs ms qs) m (i : Nat)) _ m _ _ (by simp) (by simp) (fun i hi k => ?_) (fun k => ?_)
  · have e1 : i < ac.length := by omega
    have e2 : i < ms.length := by omega
    have h := loop91 L n hT hm hb hq hi
    rw [s90, lt_dec hi, cond_true]
    simp only [look1 e1 hT.a, look1 e2 (fun e he => (hT.m e he).1)]
    unfold iOk
    show cond (!isB (aci ac i 0) (aci ac i 1) (aci ac i 2)) _ (cond (!limB (at1 ms i)) _ _) = _
    cases isB (aci ac i 0) (aci ac i 1) (aci ac i 2) with
    | false => rfl
    | true =>
      cases limB (at1 ms i) with
      | false => rfl
      | true =>
        cases hk : allF (kOk bs qs i) m 0 with
        | true =>
          rw [hk] at h
          refine (need_pos h).trans ?_
          rw [wrap_succ (by omega)]
          rfl
        | false =>
          rw [hk] at h
          exact need_pos h
  · rw [s90, lt_dec_self]
    rfl
def isS : FSpec where
  D ds := ∃ ac bs ms qs, ds = [.agg (bk ac bs ms qs)] ∧ TY ac bs ms qs
  val ds := match ds with | [.agg [.sla _ _ ac, .sla _ _ bs, .sla _ _ ms, .sla _ _ qs]] => some (.bool (isBk ac bs ms qs)) | _ => none
end Go.Proofs.Ythjcfiekdejdgaa
