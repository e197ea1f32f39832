/- What the reference's sums come to: the proofs; one's own shortness, by the reference: the runs. No condition. -/
import Derived.Test.YthjcfiekdejdgaaGj
namespace Go.Proofs.Ythjcfiekdejdgaa
open Go Go.Proofs Go.RowKit Vm
set_option linter.unusedVariables false
set_option linter.unusedSimpArgs false
def sentS : FSpec where
  D ds := ∃ n l i k, ds = [.sla false 7 l, .int .i64 i, .int .i64 k] ∧ l.length ≤ 1000 ∧ ∀ e ∈ l, PO n e
  val ds := match ds with | [.sla _ _ l, .int _ i, .int _ k] => some (.int .i64 (sumL (dF i k) l)) | _ => none
def clsS : FSpec where
  D ds := ∃ n l i, ds = [.sla false 7 l, .int .i64 i] ∧ l.length ≤ 1000 ∧ ∀ e ∈ l, PO n e
  val ds := match ds with | [.sla _ _ l, .int _ i] => some (.tuple [.int .i64 (sumL (dP i) l), .int .i64 (sumL (dR i) l)]) | _ => none
def sumN (g : Nat → Int) : Nat → Int
  | 0 => 0
  | k + 1 => sumN g k + g k
def ddI (l : List (List DV)) (i k : Int) : Int := sumL (dF i k) l - sumL (dF k i) l
def limK (bs qs l : List (List DV)) (i k : Nat) : Bool := bif bif decide (sumL (dF i k) l > (0 : Int)) then at2 bs i k != -1 else false then decide (at2 qs i k + ddI l i k > at2 bs i k) else false
def S320 (l : List (List DV)) (i : Int) (b : List DV) (p s n net k : Int) : St := St.of [(1, .d (.sla false 7 l)), (2, .d (.int .i64 i)), (3, .d (.rptr b 0)), (7, .d (.int .i64 p)), (8, .d (.int .i64 s)), (9, .d (.int .i64 n)), (10, .d (.int .i64 net)), (11, .d (.int .i64 k))] [(16, none), (38, none), (3, none)]
def E320 (i : Int) (b : List DV) (p s n net : Int) : St := St.of [(2, .d (.int .i64 i)), (3, .d (.rptr b 0)), (7, .d (.int .i64 p)), (8, .d (.int .i64 s)), (9, .d (.int .i64 n)), (10, .d (.int .i64 net))] [(16, none), (38, none), (3, none)]
def l320 : LSpec := fun st => match st.env 1, st.env 2, st.env 3, st.env 7, st.env 8, st.env 9, st.env 10 with
  | .d (.sla _ _ l), .d (.int _ i), .d (.rptr [.sla k1 s1 ac, .sla k2 s2 bs, .sla k3 s3 ms, .sla k4 s4 qs] o), .d (.int _ p), .d (.int _ s), .d (.int _ n), .d (.int _ net) =>
    .br (allF (fun k => !limK bs qs l i.toNat k) ac.length 0)
      (.one (.ex 0) (E320 i [.sla k1 s1 ac, .sla k2 s2 bs, .sla k3 s3 ms, .sla k4 s4 qs] p s (n - sumN (fun k => ddI l i k) ac.length) (net + sumN (fun k => ddI l i k) ac.length)))
      (.one .ret (St.of [(6, .d (.bool true))] []))
  | _, _, _, _, _, _, _ => .no
def lK (k : Nat) : Option LSpec := if k = 320 then some l320 else none
def netR : FSpec where
  D ds := ∃ ac bs ms qs i, ds = [.agg (bk ac bs ms qs), .int .i64 ((i : Nat) : Int)] ∧ BK ac bs ms qs ∧ i < ac.length
  val ds := match ds with | [.agg [.sla _ _ ac, .sla _ _ bs, .sla _ _ ms, .sla _ _ qs], .int _ i] => some (.int .i64 (sumR (rw qs i.toNat))) | _ => none
noncomputable def spK : FuncId → Option FSpec := spAdd 44 sentS (spAdd 42 clsS (spAdd 43 netR noSp))
theorem s320 (L m : Nat) (l ac bs ms qs : List (List DV)) (i : Nat) (p s n net : Int) (k : Nat) (K : Kont) : LB tab spK lK L (m+4) h320 c32l0 (S320 l i (bk ac bs ms qs) p s n net k) K =
   (bif decide ((↑k : Int) < (↑ac.length : Int)) then
 need (sentS.D [DV.sla false 7 l, DV.int .i64 (↑i : Int), DV.int .i64 (↑k : Int)])
 (need (sentS.D [DV.sla false 7 l, DV.int .i64 (↑k : Int), DV.int .i64 (↑i : Int)])
 (need (sentS.D [DV.sla false 7 l, DV.int .i64 (↑i : Int), DV.int .i64 (↑k : Int)])
 (bif decide (sumL (dF (↑i : Int) (↑k : Int)) l > (0 : Int)) then
 lookK bs[i]? fun (e5 : List DV) =>
 bif okRow [DV.nilsl] e5 then
 bif decide ((1 : Nat) = (cellA e5 0).slZ) then
 lookK (cellA e5 0).slR[k]? fun (e9 : List DV) =>
 bif okRow [DV.int .i64 0] e9 then
 bif (cellA e9 0).toI != (-1 : Int) then
 lookK qs[i]? fun (e13 : List DV) =>
 bif okRow [DV.nilsl] e13 then
 bif decide ((1 : Nat) = (cellA e13 0).slZ) then
 lookK (cellA e13 0).slR[k]? fun (e17 : List DV) =>
 bif okRow [DV.int .i64 0] e17 then
 lookK bs[i]? fun (e20 : List DV) =>
 bif okRow [DV.nilsl] e20 then
 bif decide ((1 : Nat) = (cellA e20 0).slZ) then
 lookK (cellA e20 0).slR[k]? fun (e24 : List DV) =>
 bif okRow [DV.int .i64 0] e24 then
 bif
 decide
 (IntKind.i64.wrap
 ((cellA e17 0).toI +
 IntKind.i64.wrap (sumL (dF (↑i : Int) (↑k : Int)) l - sumL (dF (↑k : Int) (↑i : Int)) l)) >
 (cellA e24 0).toI) then
 K Ex.ret (St.of [(6, AV.d (DV.bool true))] [])
 else
 K Ex.nrm
 (St.of
 [(1, AV.d (DV.sla false 7 l)), (2, AV.d (DV.int .i64 (↑i : Int))),
 ((3 : Nat),
 AV.d
 (DV.rptr
 [DV.sla false 3 ac, DV.sla false 1 bs, DV.sla false 1 ms,
 DV.sla false 1 qs]
 (0 : Nat))),
 ((7 : Nat), AV.d (DV.int .i64 p)), (8, AV.d (DV.int .i64 s)),
 ((9 : Nat),
 AV.d
 (DV.int .i64
 (IntKind.i64.wrap
 (n -
 IntKind.i64.wrap (sumL (dF (↑i : Int) (↑k : Int)) l - sumL (dF (↑k : Int) (↑i : Int)) l))))),
 ((10 : Nat),
 AV.d
 (DV.int .i64
 (IntKind.i64.wrap
 (net +
 IntKind.i64.wrap (sumL (dF (↑i : Int) (↑k : Int)) l - sumL (dF (↑k : Int) (↑i : Int)) l))))),
 ((11 : Nat), AV.d (DV.int .i64 (IntKind.i64.wrap ((↑k : Int) + (1 : Int)))))]
 [(16, none), (38, none), (3, none)])
 else none
 else none
 else none
 else none
 else none
 else none
 else
 K Ex.nrm
 (St.of
 [(1, AV.d (DV.sla false 7 l)), (2, AV.d (DV.int .i64 (↑i : Int))),
 ((3 : Nat),
 AV.d
 (DV.rptr [DV.sla false 3 ac, DV.sla false 1 bs, DV.sla false 1 ms, DV.sla false 1 qs]
 (0 : Nat))),
 ((7 : Nat), AV.d (DV.int .i64 p)), (8, AV.d (DV.int .i64 s)),
 ((9 : Nat),
 AV.d
 (DV.int .i64
 (IntKind.i64.wrap (n - IntKind.i64.wrap (sumL (dF (↑i : Int) (↑k : Int)) l - sumL (dF (↑k : Int) (↑i : Int)) l))))),
 ((10 : Nat),
 AV.d
 (DV.int .i64
 (IntKind.i64.wrap (net + IntKind.i64.wrap (sumL (dF (↑i : Int) (↑k : Int)) l - sumL (dF (↑k : Int) (↑i : Int)) l))))),
 ((11 : Nat), AV.d (DV.int .i64 (IntKind.i64.wrap ((↑k : Int) + (1 : Int)))))]
 [(16, none), (38, none), (3, none)])
 else none
 else none
 else none
 else
 K Ex.nrm
 (St.of
 [(1, AV.d (DV.sla false 7 l)), (2, AV.d (DV.int .i64 (↑i : Int))),
 ((3 : Nat),
 AV.d (DV.rptr [DV.sla false 3 ac, DV.sla false 1 bs, DV.sla false 1 ms, DV.sla false 1 qs] (0 : Nat))),
 ((7 : Nat), AV.d (DV.int .i64 p)), (8, AV.d (DV.int .i64 s)),
 ((9 : Nat),
 AV.d
 (DV.int .i64
 (IntKind.i64.wrap (n - IntKind.i64.wrap (sumL (dF (↑i : Int) (↑k : Int)) l - sumL (dF (↑k : Int) (↑i : Int)) l))))),
 ((10 : Nat),
 AV.d
 (DV.int .i64
 (IntKind.i64.wrap (net + IntKind.i64.wrap (sumL (dF (↑i : Int) (↑k : Int)) l - sumL (dF (↑k : Int) (↑i : Int)) l))))),
 ((11 : Nat), AV.d (DV.int .i64 (IntKind.i64.wrap ((↑k : Int) + (1 : Int)))))]
 [(16, none), (38, none), (3, none)]))))
 else
 K (Ex.ex (0 : Nat))
 (St.of
 [(2, AV.d (DV.int .i64 (↑i : Int))),
 ((3 : Nat), AV.d (DV.rptr [DV.sla false 3 ac, DV.sla false 1 bs, DV.sla false 1 ms, DV.sla false 1 qs] (0 : Nat))),
 ((7 : Nat), AV.d (DV.int .i64 p)), (8, AV.d (DV.int .i64 s)), (9, AV.d (DV.int .i64 n)),
 ((10 : Nat), AV.d (DV.int .i64 net))]
 [(16, none), (38, none), (3, none)])) :=
  (show LB tab spK lK L (m+4) h320 c32l0 (S320 l i (bk ac bs ms qs) p s n net k) K =
 (cond (decide ((↑k : Int) < (↑ac.length : Int)))
 (need (FSpec.D (sentS) [(.sla false 7 l), (.int .i64 ((↑i : Int))), (.int .i64 ((↑k : Int)))])
 (need (FSpec.D (sentS) [(.sla false 7 l), (.int .i64 ((↑k : Int))), (.int .i64 ((↑i : Int)))])
 (need (FSpec.D (sentS) [(.sla false 7 l), (.int .i64 ((↑i : Int))), (.int .i64 ((↑k : Int)))])
 (cond (decide (sumL (dF (↑i : Int) (↑k : Int)) l > (0 : Int)))
 (lookK (bs[(↑i : Int).toNat]?)
 fun e5 =>
 (cond (okRow [DV.nilsl] e5)
 (cond (decide ((1 : Nat) = (cellA e5 0).slZ))
 (lookK ((cellA e5 0).slR[(↑k : Int).toNat]?)
 fun e9 =>
 (cond (okRow [DV.int .i64 0] e9)
 (cond ((cellA e9 0).toI != (-1 : Int))
 (lookK (qs[(↑i : Int).toNat]?)
 fun e13 =>
 (cond (okRow [DV.nilsl] e13)
 (cond (decide ((1 : Nat) = (cellA e13 0).slZ))
 (lookK ((cellA e13 0).slR[(↑k : Int).toNat]?)
 fun e17 =>
 (cond (okRow [DV.int .i64 0] e17)
 (lookK (bs[(↑i : Int).toNat]?)
 fun e20 =>
 (cond (okRow [DV.nilsl] e20)
 (cond (decide ((1 : Nat) = (cellA e20 0).slZ))
 (lookK ((cellA e20 0).slR[(↑k : Int).toNat]?)
 fun e24 =>
 (cond (okRow [DV.int .i64 0] e24)
 (cond (decide (IntKind.i64.wrap ((cellA e17 0).toI + IntKind.i64.wrap (sumL (dF (↑i : Int) (↑k : Int)) l - sumL (dF (↑k : Int) (↑i : Int)) l)) > (cellA e24 0).toI))
 (K .ret (St.of [(6, (.d (.bool true)))] []))
 (K .nrm (St.of [(1, (.d (.sla false 7 l))), (2, (.d (.int .i64 ((↑i : Int))))), (3, (.d (.rptr [(.sla false 3 ac), (.sla false 1 bs), (.sla false 1 ms), (.sla false 1 qs)] 0))), (7, (.d (.int .i64 p))), (8, (.d (.int .i64 s))), (9, (.d (.int .i64 (IntKind.i64.wrap (n - IntKind.i64.wrap (sumL (dF (↑i : Int) (↑k : Int)) l - sumL (dF (↑k : Int) (↑i : Int)) l)))))), (10, (.d (.int .i64 (IntKind.i64.wrap (net + IntKind.i64.wrap (sumL (dF (↑i : Int) (↑k : Int)) l - sumL (dF (↑k : Int) (↑i : Int)) l)))))), (11, (.d (.int .i64 (IntKind.i64.wrap ((↑k : Int) + (1 : Int))))))] [(16, .none), (38, .none), (3, .none)])))
 none))
 none)
 none))
 none))
 none)
 none))
 (K .nrm (St.of [(1, (.d (.sla false 7 l))), (2, (.d (.int .i64 ((↑i : Int))))), (3, (.d (.rptr [(.sla false 3 ac), (.sla false 1 bs), (.sla false 1 ms), (.sla false 1 qs)] 0))), (7, (.d (.int .i64 p))), (8, (.d (.int .i64 s))), (9, (.d (.int .i64 (IntKind.i64.wrap (n - IntKind.i64.wrap (sumL (dF (↑i : Int) (↑k : Int)) l - sumL (dF (↑k : Int) (↑i : Int)) l)))))), (10, (.d (.int .i64 (IntKind.i64.wrap (net + IntKind.i64.wrap (sumL (dF (↑i : Int) (↑k : Int)) l - sumL (dF (↑k : Int) (↑i : Int)) l)))))), (11, (.d (.int .i64 (IntKind.i64.wrap ((↑k : Int) + (1 : Int))))))] [(16, .none), (38, .none), (3, .none)])))
 none))
 none)
 none))
 (K .nrm (St.of [(1, (.d (.sla false 7 l))), (2, (.d (.int .i64 ((↑i : Int))))), (3, (.d (.rptr [(.sla false 3 ac), (.sla false 1 bs), (.sla false 1 ms), (.sla false 1 qs)] 0))), (7, (.d (.int .i64 p))), (8, (.d (.int .i64 s))), (9, (.d (.int .i64 (IntKind.i64.wrap (n - IntKind.i64.wrap (sumL (dF (↑i : Int) (↑k : Int)) l - sumL (dF (↑k : Int) (↑i : Int)) l)))))), (10, (.d (.int .i64 (IntKind.i64.wrap (net + IntKind.i64.wrap (sumL (dF (↑i : Int) (↑k : Int)) l - sumL (dF (↑k : Int) (↑i : Int)) l)))))), (11, (.d (.int .i64 (IntKind.i64.wrap ((↑k : Int) + (1 : Int))))))] [(16, .none), (38, .none), (3, .none)]))))))
 (K (.ex 0) (St.of [(2, (.d (.int .i64 ((↑i : Int))))), (3, (.d (.rptr [(.sla false 3 ac), (.sla false 1 bs), (.sla false 1 ms), (.sla false 1 qs)] 0))), (7, (.d (.int .i64 p))), (8, (.d (.int .i64 s))), (9, (.d (.int .i64 n))), (10, (.d (.int .i64 net)))] [(16, .none), (38, .none), (3, .none)]))) from by kernel_rfl).trans (by first | rfl | (simp only [decide_true, decide_false, eq_self, and_true, true_and, and_self, cond_true, cond_false, Nat.le_refl, Int.le_refl, Option.getD_some, Option.getD_none, Int.toNat_natCast, List.take_length, List.drop_zero, Nat.zero_add, List.nil_append, List.all_nil, List.append_nil, Bool.true_and, Bool.and_true, rowsA_sla, rowsA_sl, rowsA_nil, minus_zero, nat_le_cast, nat_nonneg, Option.isSome_some, Option.isSome_none, Bool.false_eq_true, false_and, and_false, if_true, if_false, implies_true, Int.toNat_zero, Bool.not_false, Bool.not_true, bne_self_eq_false]; done) | (simp only [decide_true, decide_false, eq_self, and_true, true_and, and_self, cond_true, cond_false, Nat.le_refl, Int.le_refl, Option.getD_some, Option.getD_none, Int.toNat_natCast, List.take_length, List.drop_zero, Nat.zero_add, List.nil_append, List.all_nil, List.append_nil, Bool.true_and, Bool.and_true, rowsA_sla, rowsA_sl, rowsA_nil, minus_zero, nat_le_cast, nat_nonneg, Option.isSome_some, Option.isSome_none, Bool.false_eq_true, false_and, and_false, if_true, if_false, implies_true, Int.toNat_zero, Bool.not_false, Bool.not_true, bne_self_eq_false]; rfl))
theorem t32 (m : Nat) (ac bs ms qs l : List (List DV)) (i : Nat) : FK tab spK lK 20 (m+12) 32 [.agg (bk ac bs ms qs), .sla false 7 l, .int .i64 ((i : Nat) : Int)] =
   (need (clsS.D [DV.sla false 7 l, DV.int .i64 (↑i : Int)])
 (bif IntKind.i64.wrap (sumL (dP (↑i : Int)) l + sumL (dR (↑i : Int)) l) == (0 : Int) then some (DV.bool false)
 else
 lookK ac[i]? fun (e2 : List DV) =>
 bif okRow [DV.int .i64 0, DV.int .i64 0, DV.int .i64 0] e2 then
 lookK ac[i]? fun (e5 : List DV) =>
 bif okRow [DV.int .i64 0, DV.int .i64 0, DV.int .i64 0] e5 then
 need
 (netR.D
 [DV.agg [DV.sla false 3 ac, DV.sla false 1 bs, DV.sla false 1 ms, DV.sla false 1 qs], DV.int .i64 (↑i : Int)])
 (bif allF (fun (k : Nat) => !limK bs qs l i k) ac.length (0 : Nat) then
 need
 (LoopOk (LB tab spK lK (20 : Nat) (m + (12 : Nat)) h320 c32l0)
 (St.of
 [(1, AV.d (DV.sla false 7 l)), (2, AV.d (DV.int .i64 (↑i : Int))),
 ((3 : Nat),
 AV.d
 (DV.rptr [DV.sla false 3 ac, DV.sla false 1 bs, DV.sla false 1 ms, DV.sla false 1 qs]
 (0 : Nat))),
 ((7 : Nat), AV.d (DV.int .i64 (sumL (dP (↑i : Int)) l))), (8, AV.d (DV.int .i64 (sumL (dR (↑i : Int)) l))),
 ((9 : Nat), AV.d (DV.int .i64 (IntKind.i64.wrap ((cellA e2 0).toI + (cellA e5 1).toI)))),
 ((10 : Nat), AV.d (DV.int .i64 (sumR (rw qs i)))), (11, AV.d (DV.int .i64 0))]
 [(16, none), (38, none), (3, none)])
 (Ex.ex (0 : Nat),
 St.of
 [(2, AV.d (DV.int .i64 (↑i : Int))),
 ((3 : Nat),
 AV.d
 (DV.rptr [DV.sla false 3 ac, DV.sla false 1 bs, DV.sla false 1 ms, DV.sla false 1 qs]
 (0 : Nat))),
 ((7 : Nat), AV.d (DV.int .i64 (sumL (dP (↑i : Int)) l))), (8, AV.d (DV.int .i64 (sumL (dR (↑i : Int)) l))),
 ((9 : Nat),
 AV.d
 (DV.int .i64
 (IntKind.i64.wrap ((cellA e2 0).toI + (cellA e5 1).toI) -
 sumN (fun (k : Nat) => ddI l (↑i : Int) (↑k : Int)) ac.length))),
 ((10 : Nat), AV.d (DV.int .i64 (sumR (rw qs i) + sumN (fun (k : Nat) => ddI l (↑i : Int) (↑k : Int)) ac.length)))]
 [(16, none), (38, none), (3, none)]))
 (bif
 decide
 (IntKind.i64.wrap ((cellA e2 0).toI + (cellA e5 1).toI) -
 sumN (fun (k : Nat) => ddI l (↑i : Int) (↑k : Int)) ac.length <
 (0 : Int)) then
 bif decide (sumL (dP (↑i : Int)) l > (0 : Int)) then some (DV.bool true) else some (DV.bool true)
 else
 bif decide (sumL (dP (↑i : Int)) l > (0 : Int)) then
 lookK ac[i]? fun (e13 : List DV) =>
 bif okRow [DV.int .i64 0, DV.int .i64 0, DV.int .i64 0] e13 then
 bif decide (sumL (dR (↑i : Int)) l ≥ (cellA e13 2).toI) then
 bif
 decide
 (IntKind.i64.wrap ((cellA e2 0).toI + (cellA e5 1).toI) -
 sumN (fun (k : Nat) => ddI l (↑i : Int) (↑k : Int)) ac.length <
 (0 : Int)) then
 some (DV.bool true)
 else
 lookK ms[i]? fun (e18 : List DV) =>
 bif okRow [DV.int .i64 0] e18 then
 bif (cellA e18 0).toI != (-1 : Int) then
 lookK ms[i]? fun (e22 : List DV) =>
 bif okRow [DV.int .i64 0] e22 then
 some
 (DV.bool
 (decide
 (sumR (rw qs i) + sumN (fun (k : Nat) => ddI l (↑i : Int) (↑k : Int)) ac.length >
 (cellA e22 0).toI)))
 else none
 else some (DV.bool false)
 else none
 else
 bif
 decide
 (IntKind.i64.wrap ((cellA e2 0).toI + (cellA e5 1).toI) -
 sumN (fun (k : Nat) => ddI l (↑i : Int) (↑k : Int)) ac.length <
 IntKind.i64.wrap ((cellA e13 2).toI - sumL (dR (↑i : Int)) l)) then
 some (DV.bool true)
 else
 lookK ms[i]? fun (e18 : List DV) =>
 bif okRow [DV.int .i64 0] e18 then
 bif (cellA e18 0).toI != (-1 : Int) then
 lookK ms[i]? fun (e22 : List DV) =>
 bif okRow [DV.int .i64 0] e22 then
 some
 (DV.bool
 (decide
 (sumR (rw qs i) + sumN (fun (k : Nat) => ddI l (↑i : Int) (↑k : Int)) ac.length >
 (cellA e22 0).toI)))
 else none
 else some (DV.bool false)
 else none
 else none
 else
 lookK ms[i]? fun (e18 : List DV) =>
 bif okRow [DV.int .i64 0] e18 then
 bif (cellA e18 0).toI != (-1 : Int) then
 lookK ms[i]? fun (e22 : List DV) =>
 bif okRow [DV.int .i64 0] e22 then
 some
 (DV.bool
 (decide (sumR (rw qs i) + sumN (fun (k : Nat) => ddI l (↑i : Int) (↑k : Int)) ac.length > (cellA e22 0).toI)))
 else none
 else some (DV.bool false)
 else none)
 else
 need
 (LoopOk (LB tab spK lK (20 : Nat) (m + (12 : Nat)) h320 c32l0)
 (St.of
 [(1, AV.d (DV.sla false 7 l)), (2, AV.d (DV.int .i64 (↑i : Int))),
 ((3 : Nat),
 AV.d
 (DV.rptr [DV.sla false 3 ac, DV.sla false 1 bs, DV.sla false 1 ms, DV.sla false 1 qs]
 (0 : Nat))),
 ((7 : Nat), AV.d (DV.int .i64 (sumL (dP (↑i : Int)) l))), (8, AV.d (DV.int .i64 (sumL (dR (↑i : Int)) l))),
 ((9 : Nat), AV.d (DV.int .i64 (IntKind.i64.wrap ((cellA e2 0).toI + (cellA e5 1).toI)))),
 ((10 : Nat), AV.d (DV.int .i64 (sumR (rw qs i)))), (11, AV.d (DV.int .i64 0))]
 [(16, none), (38, none), (3, none)])
 (Ex.ret, St.of [(6, AV.d (DV.bool true))] []))
 (some (DV.bool true)))
 else none
 else none)) :=
  (show FK tab spK lK 20 (m+12) 32 [.agg (bk ac bs ms qs), .sla false 7 l, .int .i64 ((i : Nat) : Int)] =
 (need (FSpec.D (clsS) [(.sla false 7 l), (.int .i64 ((↑i : Int)))])
 (cond (IntKind.i64.wrap (sumL (dP (↑i : Int)) l + sumL (dR (↑i : Int)) l) == (0 : Int))
 (some (.bool false))
 (lookK (ac[(↑i : Int).toNat]?)
 fun e2 =>
 (cond (okRow [DV.int .i64 0, DV.int .i64 0, DV.int .i64 0] e2)
 (lookK (ac[(↑i : Int).toNat]?)
 fun e5 =>
 (cond (okRow [DV.int .i64 0, DV.int .i64 0, DV.int .i64 0] e5)
 (need (FSpec.D (netR) [(.agg [(.sla false 3 ac), (.sla false 1 bs), (.sla false 1 ms), (.sla false 1 qs)]), (.int .i64 ((↑i : Int)))])
 (cond (allF (fun (k : Nat) => !limK bs qs l (↑i : Int).toNat k) ac.length (0 : Nat))
 (need (LoopOk (LB tab spK lK ((20 : Nat)) (m + (12 : Nat)) h320 c32l0) (St.of [(1, (.d (.sla false 7 l))), (2, (.d (.int .i64 ((↑i : Int))))), (3, (.d (.rptr [(.sla false 3 ac), (.sla false 1 bs), (.sla false 1 ms), (.sla false 1 qs)] 0))), (7, (.d (.int .i64 (sumL (dP (↑i : Int)) l)))), (8, (.d (.int .i64 (sumL (dR (↑i : Int)) l)))), (9, (.d (.int .i64 (IntKind.i64.wrap ((cellA e2 0).toI + (cellA e5 1).toI))))), (10, (.d (.int .i64 (sumR (rw qs (↑i : Int).toNat))))), (11, (.d (.int .i64 ((0 : Int)))))] [(16, .none), (38, .none), (3, .none)]) ((.ex 0), (St.of [(2, (.d (.int .i64 ((↑i : Int))))), (3, (.d (.rptr [(.sla false 3 ac), (.sla false 1 bs), (.sla false 1 ms), (.sla false 1 qs)] 0))), (7, (.d (.int .i64 (sumL (dP (↑i : Int)) l)))), (8, (.d (.int .i64 (sumL (dR (↑i : Int)) l)))), (9, (.d (.int .i64 (IntKind.i64.wrap ((cellA e2 0).toI + (cellA e5 1).toI) - sumN (fun (k : Nat) => ddI l (↑i : Int) (↑k : Int)) ac.length)))), (10, (.d (.int .i64 (sumR (rw qs (↑i : Int).toNat) + sumN (fun (k : Nat) => ddI l (↑i : Int) (↑k : Int)) ac.length))))] [(16, .none), (38, .none), (3, .none)])))
 (cond (decide (IntKind.i64.wrap ((cellA e2 0).toI + (cellA e5 1).toI) - sumN (fun (k : Nat) => ddI l (↑i : Int) (↑k : Int)) ac.length < (0 : Int)))
 (cond (decide (sumL (dP (↑i : Int)) l > (0 : Int)))
 (some (.bool true))
 (some (.bool true)))
 (cond (decide (sumL (dP (↑i : Int)) l > (0 : Int)))
 (lookK (ac[(↑i : Int).toNat]?)
 fun e13 =>
 (cond (okRow [DV.int .i64 0, DV.int .i64 0, DV.int .i64 0] e13)
 (cond (decide (sumL (dR (↑i : Int)) l ≥ (cellA e13 2).toI))
 (cond (decide (IntKind.i64.wrap ((cellA e2 0).toI + (cellA e5 1).toI) - sumN (fun (k : Nat) => ddI l (↑i : Int) (↑k : Int)) ac.length < (0 : Int)))
 (some (.bool true))
 (lookK (ms[(↑i : Int).toNat]?)
 fun e18 =>
 (cond (okRow [DV.int .i64 0] e18)
 (cond ((cellA e18 0).toI != (-1 : Int))
 (lookK (ms[(↑i : Int).toNat]?)
 fun e22 =>
 (cond (okRow [DV.int .i64 0] e22)
 (some (.bool (decide (sumR (rw qs (↑i : Int).toNat) + sumN (fun (k : Nat) => ddI l (↑i : Int) (↑k : Int)) ac.length > (cellA e22 0).toI))))
 none))
 (some (.bool false)))
 none)))
 (cond (decide (IntKind.i64.wrap ((cellA e2 0).toI + (cellA e5 1).toI) - sumN (fun (k : Nat) => ddI l (↑i : Int) (↑k : Int)) ac.length < IntKind.i64.wrap ((cellA e13 2).toI - sumL (dR (↑i : Int)) l)))
 (some (.bool true))
 (lookK (ms[(↑i : Int).toNat]?)
 fun e18 =>
 (cond (okRow [DV.int .i64 0] e18)
 (cond ((cellA e18 0).toI != (-1 : Int))
 (lookK (ms[(↑i : Int).toNat]?)
 fun e22 =>
 (cond (okRow [DV.int .i64 0] e22)
 (some (.bool (decide (sumR (rw qs (↑i : Int).toNat) + sumN (fun (k : Nat) => ddI l (↑i : Int) (↑k : Int)) ac.length > (cellA e22 0).toI))))
 none))
 (some (.bool false)))
 none))))
 none))
 (lookK (ms[(↑i : Int).toNat]?)
 fun e13 =>
 (cond (okRow [DV.int .i64 0] e13)
 (cond ((cellA e13 0).toI != (-1 : Int))
 (lookK (ms[(↑i : Int).toNat]?)
 fun e17 =>
 (cond (okRow [DV.int .i64 0] e17)
 (some (.bool (decide (sumR (rw qs (↑i : Int).toNat) + sumN (fun (k : Nat) => ddI l (↑i : Int) (↑k : Int)) ac.length > (cellA e17 0).toI))))
 none))
 (some (.bool false)))
 none)))))
 (need (LoopOk (LB tab spK lK ((20 : Nat)) (m + (12 : Nat)) h320 c32l0) (St.of [(1, (.d (.sla false 7 l))), (2, (.d (.int .i64 ((↑i : Int))))), (3, (.d (.rptr [(.sla false 3 ac), (.sla false 1 bs), (.sla false 1 ms), (.sla false 1 qs)] 0))), (7, (.d (.int .i64 (sumL (dP (↑i : Int)) l)))), (8, (.d (.int .i64 (sumL (dR (↑i : Int)) l)))), (9, (.d (.int .i64 (IntKind.i64.wrap ((cellA e2 0).toI + (cellA e5 1).toI))))), (10, (.d (.int .i64 (sumR (rw qs (↑i : Int).toNat))))), (11, (.d (.int .i64 ((0 : Int)))))] [(16, .none), (38, .none), (3, .none)]) (.ret, (St.of [(6, (.d (.bool true)))] [])))
 (some (.bool true)))))
 none))
 none)))) from by kernel_rfl).trans (by first | rfl | (simp only [decide_true, decide_false, eq_self, and_true, true_and, and_self, cond_true, cond_false, Nat.le_refl, Int.le_refl, Option.getD_some, Option.getD_none, Int.toNat_natCast, List.take_length, List.drop_zero, Nat.zero_add, List.nil_append, List.all_nil, List.append_nil, Bool.true_and, Bool.and_true, rowsA_sla, rowsA_sl, rowsA_nil, minus_zero, nat_le_cast, nat_nonneg, Option.isSome_some, Option.isSome_none, Bool.false_eq_true, false_and, and_false, if_true, if_false, implies_true, Int.toNat_zero, Bool.not_false, Bool.not_true, bne_self_eq_false]; done) | (simp only [decide_true, decide_false, eq_self, and_true, true_and, and_self, cond_true, cond_false, Nat.le_refl, Int.le_refl, Option.getD_some, Option.getD_none, Int.toNat_natCast, List.take_length, List.drop_zero, Nat.zero_add, List.nil_append, List.all_nil, List.append_nil, Bool.true_and, Bool.and_true, rowsA_sla, rowsA_sl, rowsA_nil, minus_zero, nat_le_cast, nat_nonneg, Option.isSome_some, Option.isSome_none, Bool.false_eq_true, false_and, and_false, if_true, if_false, implies_true, Int.toNat_zero, Bool.not_false, Bool.not_true, bne_self_eq_false]; rfl))
end Go.Proofs.Ythjcfiekdejdgaa
