/- What is known of the sums, by their runs. No condition. -/
import Derived.Test.YtianifckopijjaaSa
namespace Go.Proofs.Ytianifckopijjaa
open Go Go.Proofs Go.RowKit Vm
set_option linter.unusedVariables false
set_option linter.unusedSimpArgs false
abbrev z1 : List DV := [.int .i64 0]
def cel (e : List DV) : Int := (cellA e 0).toI
def sumZ : List (List DV) → Int
  | [] => 0
  | e :: l => cel e + sumZ l
def S130 (s : DV) (hi lo N i : Int) : St := St.of [(4, .d (.int .i64 hi)), (5, .d (.int .u64 lo)), (9, .d s), (10, .d (.int .i64 N)), (11, .d (.int .i64 i))] [(19, none)]
def E130 (hi lo : Int) : St := St.of [(4, .d (.int .i64 hi)), (5, .d (.int .u64 lo))] [(19, none)]
def l130 : LSpec := fun st =>
  match st.env 9 with
  | .d s => .one (.ex 0) (E130 (sumZ (rows s) / 18446744073709551616) (sumZ (rows s) % 18446744073709551616))
  | _ => .no
def S140 (s : DV) (hi lo i : Int) : St := St.of [(0, .d s), (4, .ptr 4 2 0 0), (5, .d (.int .i64 i))] [(17, none), (4, some (.dat 49 2 [[.int .i64 hi, .int .i64 lo]]))]
def E140 (hi lo : Int) : St := St.of [(4, .ptr 4 2 0 0)] [(17, none), (4, some (.dat 49 2 [[.int .i64 hi, .int .i64 lo]]))]
def l140 : LSpec := fun st =>
  match st.env 0 with
  | .d s => .one (.ex 0) (E140 (sumZ (rows s) / 4294967296) (sumZ (rows s) % 4294967296))
  | _ => .no
def lsp1 (k : Nat) : Option LSpec := if k = 130 then some l130 else if k = 140 then some l140 else none
noncomputable def spS : FuncId → Option FSpec := spAdd 28 addS noSp
theorem spS_ok : ∀ f s, spS f = some s → s.ok Try.prog f := spAdd_ok add28 noSp_ok
theorem s130 (L n : Nat) (q : SK) (es : List (List DV)) (hi lo N : Int) (i : Nat) (k : Kont) : LB tab spS lsp1 L (n+4) h130 c13l0 (S130 (.sl q 1 es) hi lo N i) k =
   (bif decide ((↑i : Int) < N) then
 lookK es[i]? fun (e1 : List DV) =>
 bif okRow [DV.int .i64 0] e1 then
 need (addS.D [DV.int IntKind.u64 lo, DV.int IntKind.u64 (IntKind.u64.wrap (cellA e1 0).toI), DV.int IntKind.u64 (0 : Int)])
 (k Ex.nrm
 (St.of
 [((4 : Nat),
 AV.d
 (DV.int .i64
 (IntKind.i64.wrap
 (hi +
 IntKind.i64.wrap
 ((cellA e1 0).toI.fdiv ((2 : Int) ^ min (63 : Nat) IntKind.i64.bits) +
 IntKind.i64.wrap ((lo + IntKind.u64.wrap (cellA e1 0).toI) / (18446744073709551616 : Int))))))),
 ((5 : Nat), AV.d (DV.int IntKind.u64 ((lo + IntKind.u64.wrap (cellA e1 0).toI) % (18446744073709551616 : Int)))),
 ((9 : Nat), AV.d (DV.sl q (1 : Nat) es)), (10, AV.d (DV.int .i64 N)),
 ((11 : Nat), AV.d (DV.int .i64 (IntKind.i64.wrap ((↑i : Int) + (1 : Int)))))]
 [(19, none)]))
 else none
 else k (Ex.ex (0 : Nat)) (St.of [(4, AV.d (DV.int .i64 hi)), (5, AV.d (DV.int IntKind.u64 lo))] [(19, none)])) :=
  (show LB tab spS lsp1 L (n+4) h130 c13l0 (S130 (.sl q 1 es) hi lo N i) k =
 (cond (decide ((↑i : Int) < N))
 (lookK (es[(↑i : Int).toNat]?)
 fun e1 =>
 (cond (okRow [DV.int .i64 0] e1)
 (need (FSpec.D (addS) [(.int .u64 lo), (.int .u64 (IntKind.u64.wrap (cellA e1 0).toI)), (.int .u64 ((0 : Int)))])
 (k .nrm (St.of [(4, (.d (.int .i64 (IntKind.i64.wrap (hi + IntKind.i64.wrap ((cellA e1 0).toI.fdiv ((2 : Int) ^ min (63 : Nat) IntKind.i64.bits) + IntKind.i64.wrap ((lo + IntKind.u64.wrap (cellA e1 0).toI) / (18446744073709551616 : Int)))))))), (5, (.d (.int .u64 ((lo + IntKind.u64.wrap (cellA e1 0).toI) % (18446744073709551616 : Int))))), (9, (.d (.sl q 1 es))), (10, (.d (.int .i64 N))), (11, (.d (.int .i64 (IntKind.i64.wrap ((↑i : Int) + (1 : Int))))))] [(19, .none)])))
 none))
 (k (.ex 0) (St.of [(4, (.d (.int .i64 hi))), (5, (.d (.int .u64 lo)))] [(19, .none)]))) from by kernel_rfl).trans (by first | rfl | (simp only [decide_true, decide_false, eq_self, and_true, true_and, and_self, cond_true, cond_false, Nat.le_refl, Int.le_refl, Option.getD_some, Option.getD_none, Int.toNat_natCast, List.take_length, List.drop_zero, Nat.zero_add, List.nil_append, List.all_nil, List.append_nil, Bool.true_and, Bool.and_true, rowsA_sla, rowsA_sl, rowsA_nil, minus_zero, nat_le_cast, nat_nonneg, Option.isSome_some, Option.isSome_none, Bool.false_eq_true, false_and, and_false, if_true, if_false, implies_true, Int.toNat_zero, Bool.not_false, Bool.not_true, bne_self_eq_false]; done) | (simp only [decide_true, decide_false, eq_self, and_true, true_and, and_self, cond_true, cond_false, Nat.le_refl, Int.le_refl, Option.getD_some, Option.getD_none, Int.toNat_natCast, List.take_length, List.drop_zero, Nat.zero_add, List.nil_append, List.all_nil, List.append_nil, Bool.true_and, Bool.and_true, rowsA_sla, rowsA_sl, rowsA_nil, minus_zero, nat_le_cast, nat_nonneg, Option.isSome_some, Option.isSome_none, Bool.false_eq_true, false_and, and_false, if_true, if_false, implies_true, Int.toNat_zero, Bool.not_false, Bool.not_true, bne_self_eq_false]; rfl))
theorem s130n (L n : Nat) (s : DV) (hi lo : Int) (k : Kont) : LB tab spS lsp1 L (n+4) h130 c13l0 (S130 s hi lo 0 0) k =
   (k (Ex.ex (0 : Nat)) (St.of [(4, AV.d (DV.int .i64 hi)), (5, AV.d (DV.int IntKind.u64 lo))] [(19, none)])) :=
  (show LB tab spS lsp1 L (n+4) h130 c13l0 (S130 s hi lo 0 0) k =
 (k (.ex 0) (St.of [(4, (.d (.int .i64 hi))), (5, (.d (.int .u64 lo)))] [(19, .none)])) from by kernel_rfl).trans (by first | rfl | (simp only [decide_true, decide_false, eq_self, and_true, true_and, and_self, cond_true, cond_false, Nat.le_refl, Int.le_refl, Option.getD_some, Option.getD_none, Int.toNat_natCast, List.take_length, List.drop_zero, Nat.zero_add, List.nil_append, List.all_nil, List.append_nil, Bool.true_and, Bool.and_true, rowsA_sla, rowsA_sl, rowsA_nil, minus_zero, nat_le_cast, nat_nonneg, Option.isSome_some, Option.isSome_none, Bool.false_eq_true, false_and, and_false, if_true, if_false, implies_true, Int.toNat_zero, Bool.not_false, Bool.not_true, bne_self_eq_false]; done) | (simp only [decide_true, decide_false, eq_self, and_true, true_and, and_self, cond_true, cond_false, Nat.le_refl, Int.le_refl, Option.getD_some, Option.getD_none, Int.toNat_natCast, List.take_length, List.drop_zero, Nat.zero_add, List.nil_append, List.all_nil, List.append_nil, Bool.true_and, Bool.and_true, rowsA_sla, rowsA_sl, rowsA_nil, minus_zero, nat_le_cast, nat_nonneg, Option.isSome_some, Option.isSome_none, Bool.false_eq_true, false_and, and_false, if_true, if_false, implies_true, Int.toNat_zero, Bool.not_false, Bool.not_true, bne_self_eq_false]; rfl))
theorem t13 (L n : Nat) (q : SK) (es : List (List DV)) : FK tab spS lsp1 L (n+6) 13 [.sl q 1 es] =
   (need
 (LoopOk (LB tab spS lsp1 L (n + (6 : Nat)) h130 c13l0)
 (St.of
 [(4, AV.d (DV.int .i64 0)), (5, AV.d (DV.int IntKind.u64 (0 : Int))), (9, AV.d (DV.sl q (1 : Nat) es)),
 ((10 : Nat), AV.d (DV.int .i64 (↑es.length : Int))), (11, AV.d (DV.int .i64 0))]
 [(19, none)])
 (Ex.ex (0 : Nat),
 St.of
 [(4, AV.d (DV.int .i64 (sumZ (rows (DV.sl q (1 : Nat) es)) / (18446744073709551616 : Int)))),
 ((5 : Nat), AV.d (DV.int IntKind.u64 (sumZ (rows (DV.sl q (1 : Nat) es)) % (18446744073709551616 : Int))))]
 [(19, none)]))
 (bif
 sumZ (rows (DV.sl q (1 : Nat) es)) / (18446744073709551616 : Int) !=
 (IntKind.i64.wrap (sumZ (rows (DV.sl q (1 : Nat) es)) % (18446744073709551616 : Int))).fdiv ((2 : Int) ^ min (63 : Nat) IntKind.i64.bits) then
 some (DV.tuple [DV.int .i64 0, DV.bool false])
 else some (DV.tuple [DV.int .i64 (IntKind.i64.wrap (sumZ (rows (DV.sl q (1 : Nat) es)) % (18446744073709551616 : Int))), DV.bool true]))) :=
  (show FK tab spS lsp1 L (n+6) 13 [.sl q 1 es] =
 (need (LoopOk (LB tab spS lsp1 L (n + (6 : Nat)) h130 c13l0) (St.of [(4, (.d (.int .i64 ((0 : Int))))), (5, (.d (.int .u64 ((0 : Int))))), (9, (.d (.sl q 1 es))), (10, (.d (.int .i64 ((↑es.length : Int))))), (11, (.d (.int .i64 ((0 : Int)))))] [(19, .none)]) ((.ex 0), (St.of [(4, (.d (.int .i64 (sumZ (rows (DV.sl q (1 : Nat) es)) / (18446744073709551616 : Int))))), (5, (.d (.int .u64 (sumZ (rows (DV.sl q (1 : Nat) es)) % (18446744073709551616 : Int)))))] [(19, .none)])))
 (cond (sumZ (rows (DV.sl q (1 : Nat) es)) / (18446744073709551616 : Int) != (IntKind.i64.wrap (sumZ (rows (DV.sl q (1 : Nat) es)) % (18446744073709551616 : Int))).fdiv ((2 : Int) ^ min (63 : Nat) IntKind.i64.bits))
 (some (.tuple [(.int .i64 ((0 : Int))), (.bool false)]))
 (some (.tuple [(.int .i64 (IntKind.i64.wrap (sumZ (rows (DV.sl q (1 : Nat) es)) % (18446744073709551616 : Int)))), (.bool true)])))) from by kernel_rfl).trans (by first | rfl | (simp only [decide_true, decide_false, eq_self, and_true, true_and, and_self, cond_true, cond_false, Nat.le_refl, Int.le_refl, Option.getD_some, Option.getD_none, Int.toNat_natCast, List.take_length, List.drop_zero, Nat.zero_add, List.nil_append, List.all_nil, List.append_nil, Bool.true_and, Bool.and_true, rowsA_sla, rowsA_sl, rowsA_nil, minus_zero, nat_le_cast, nat_nonneg, Option.isSome_some, Option.isSome_none, Bool.false_eq_true, false_and, and_false, if_true, if_false, implies_true, Int.toNat_zero, Bool.not_false, Bool.not_true, bne_self_eq_false]; done) | (simp only [decide_true, decide_false, eq_self, and_true, true_and, and_self, cond_true, cond_false, Nat.le_refl, Int.le_refl, Option.getD_some, Option.getD_none, Int.toNat_natCast, List.take_length, List.drop_zero, Nat.zero_add, List.nil_append, List.all_nil, List.append_nil, Bool.true_and, Bool.and_true, rowsA_sla, rowsA_sl, rowsA_nil, minus_zero, nat_le_cast, nat_nonneg, Option.isSome_some, Option.isSome_none, Bool.false_eq_true, false_and, and_false, if_true, if_false, implies_true, Int.toNat_zero, Bool.not_false, Bool.not_true, bne_self_eq_false]; rfl))
theorem t13n (L n : Nat) : FK tab spS lsp1 L (n+6) 13 [.nilsl] =
   (need
 (LoopOk (LB tab spS lsp1 L (n + (6 : Nat)) h130 c13l0)
 (St.of
 [(4, AV.d (DV.int .i64 0)), (5, AV.d (DV.int IntKind.u64 (0 : Int))), (9, AV.d DV.nilsl),
 ((10 : Nat), AV.d (DV.int .i64 0)), (11, AV.d (DV.int .i64 0))]
 [(19, none)])
 (Ex.ex (0 : Nat),
 St.of
 [(4, AV.d (DV.int .i64 (sumZ (rows DV.nilsl) / (18446744073709551616 : Int)))),
 ((5 : Nat), AV.d (DV.int IntKind.u64 (sumZ (rows DV.nilsl) % (18446744073709551616 : Int))))]
 [(19, none)]))
 (some (DV.tuple [DV.int .i64 (IntKind.i64.wrap (sumZ (rows DV.nilsl) % (18446744073709551616 : Int))), DV.bool true]))) :=
  (show FK tab spS lsp1 L (n+6) 13 [.nilsl] =
 (need (LoopOk (LB tab spS lsp1 L (n + (6 : Nat)) h130 c13l0) (St.of [(4, (.d (.int .i64 ((0 : Int))))), (5, (.d (.int .u64 ((0 : Int))))), (9, (.d .nilsl)), (10, (.d (.int .i64 ((0 : Int))))), (11, (.d (.int .i64 ((0 : Int)))))] [(19, .none)]) ((.ex 0), (St.of [(4, (.d (.int .i64 (sumZ (rows DV.nilsl) / (18446744073709551616 : Int))))), (5, (.d (.int .u64 (sumZ (rows DV.nilsl) % (18446744073709551616 : Int)))))] [(19, .none)])))
 (some (.tuple [(.int .i64 (IntKind.i64.wrap (sumZ (rows DV.nilsl) % (18446744073709551616 : Int)))), (.bool true)]))) from by kernel_rfl).trans (by first | rfl | (simp only [decide_true, decide_false, eq_self, and_true, true_and, and_self, cond_true, cond_false, Nat.le_refl, Int.le_refl, Option.getD_some, Option.getD_none, Int.toNat_natCast, List.take_length, List.drop_zero, Nat.zero_add, List.nil_append, List.all_nil, List.append_nil, Bool.true_and, Bool.and_true, rowsA_sla, rowsA_sl, rowsA_nil, minus_zero, nat_le_cast, nat_nonneg, Option.isSome_some, Option.isSome_none, Bool.false_eq_true, false_and, and_false, if_true, if_false, implies_true, Int.toNat_zero, Bool.not_false, Bool.not_true, bne_self_eq_false]; done) | (simp only [decide_true, decide_false, eq_self, and_true, true_and, and_self, cond_true, cond_false, Nat.le_refl, Int.le_refl, Option.getD_some, Option.getD_none, Int.toNat_natCast, List.take_length, List.drop_zero, Nat.zero_add, List.nil_append, List.all_nil, List.append_nil, Bool.true_and, Bool.and_true, rowsA_sla, rowsA_sl, rowsA_nil, minus_zero, nat_le_cast, nat_nonneg, Option.isSome_some, Option.isSome_none, Bool.false_eq_true, false_and, and_false, if_true, if_false, implies_true, Int.toNat_zero, Bool.not_false, Bool.not_true, bne_self_eq_false]; rfl))
theorem s140 (L n : Nat) (q : SK) (es : List (List DV)) (hi lo : Int) (i : Nat) (k : Kont) : LB tab spS lsp1 L (n+4) h140 c14l0 (S140 (.sl q 1 es) hi lo i) k =
   (bif decide ((↑i : Int) < (↑es.length : Int)) then
 lookK es[i]? fun (e1 : List DV) =>
 bif okRow [DV.int .i64 0] e1 then
 k Ex.nrm
 (St.of
 [(0, AV.d (DV.sl q (1 : Nat) es)), (4, AV.ptr 4 2 0 0),
 ((5 : Nat), AV.d (DV.int .i64 (IntKind.i64.wrap ((↑i : Int) + (1 : Int)))))]
 [(17, none),
 ((4 : Nat),
 some
 (Ob.dat 49 2
 [[DV.int .i64
 (IntKind.i64.wrap
 (IntKind.i64.wrap (hi + (cellA e1 0).toI.fdiv ((2 : Int) ^ min (32 : Nat) IntKind.i64.bits)) +
 (IntKind.i64.wrap
 (lo +
 IntKind.i64.wrap
 (↑(BitVec.ofInt IntKind.i64.bits (cellA e1 0).toI &&& BitVec.ofInt IntKind.i64.bits (4294967295 : Int)).toNat :
 Int))).fdiv
 ((2 : Int) ^ min (32 : Nat) IntKind.i64.bits))), DV.int .i64
 (IntKind.i64.wrap
 (↑(BitVec.ofInt IntKind.i64.bits
 (IntKind.i64.wrap
 (lo +
 IntKind.i64.wrap
 (↑(BitVec.ofInt IntKind.i64.bits (cellA e1 0).toI &&&
 BitVec.ofInt IntKind.i64.bits (4294967295 : Int)).toNat :
 Int))) &&&
 BitVec.ofInt IntKind.i64.bits (4294967295 : Int)).toNat :
 Int))]]))])
 else none
 else
 k (Ex.ex (0 : Nat))
 (St.of [(4, AV.ptr 4 2 0 0)]
 [(17, none), (4, some (Ob.dat 49 2 [[DV.int .i64 hi, DV.int .i64 lo]]))])) :=
  (show LB tab spS lsp1 L (n+4) h140 c14l0 (S140 (.sl q 1 es) hi lo i) k =
 (cond (decide ((↑i : Int) < (↑es.length : Int)))
 (lookK (es[(↑i : Int).toNat]?)
 fun e1 =>
 (cond (okRow [DV.int .i64 0] e1)
 (k .nrm (St.of [(0, (.d (.sl q 1 es))), (4, (.ptr 4 2 0 0)), (5, (.d (.int .i64 (IntKind.i64.wrap ((↑i : Int) + (1 : Int))))))] [(17, .none), (4, (.some (.dat 49 2 [[(.int .i64 (IntKind.i64.wrap (IntKind.i64.wrap (hi + (cellA e1 0).toI.fdiv ((2 : Int) ^ min (32 : Nat) IntKind.i64.bits)) + (IntKind.i64.wrap (lo + IntKind.i64.wrap (↑(BitVec.ofInt IntKind.i64.bits (cellA e1 0).toI &&& BitVec.ofInt IntKind.i64.bits (4294967295 : Int)).toNat : Int))).fdiv ((2 : Int) ^ min (32 : Nat) IntKind.i64.bits)))), (.int .i64 (IntKind.i64.wrap (↑(BitVec.ofInt IntKind.i64.bits (IntKind.i64.wrap (lo + IntKind.i64.wrap (↑(BitVec.ofInt IntKind.i64.bits (cellA e1 0).toI &&& BitVec.ofInt IntKind.i64.bits (4294967295 : Int)).toNat : Int))) &&& BitVec.ofInt IntKind.i64.bits (4294967295 : Int)).toNat : Int)))]])))]))
 none))
 (k (.ex 0) (St.of [(4, (.ptr 4 2 0 0))] [(17, .none), (4, (.some (.dat 49 2 [[(.int .i64 hi), (.int .i64 lo)]])))]))) from by kernel_rfl).trans (by first | rfl | (simp only [decide_true, decide_false, eq_self, and_true, true_and, and_self, cond_true, cond_false, Nat.le_refl, Int.le_refl, Option.getD_some, Option.getD_none, Int.toNat_natCast, List.take_length, List.drop_zero, Nat.zero_add, List.nil_append, List.all_nil, List.append_nil, Bool.true_and, Bool.and_true, rowsA_sla, rowsA_sl, rowsA_nil, minus_zero, nat_le_cast, nat_nonneg, Option.isSome_some, Option.isSome_none, Bool.false_eq_true, false_and, and_false, if_true, if_false, implies_true, Int.toNat_zero, Bool.not_false, Bool.not_true, bne_self_eq_false]; done) | (simp only [decide_true, decide_false, eq_self, and_true, true_and, and_self, cond_true, cond_false, Nat.le_refl, Int.le_refl, Option.getD_some, Option.getD_none, Int.toNat_natCast, List.take_length, List.drop_zero, Nat.zero_add, List.nil_append, List.all_nil, List.append_nil, Bool.true_and, Bool.and_true, rowsA_sla, rowsA_sl, rowsA_nil, minus_zero, nat_le_cast, nat_nonneg, Option.isSome_some, Option.isSome_none, Bool.false_eq_true, false_and, and_false, if_true, if_false, implies_true, Int.toNat_zero, Bool.not_false, Bool.not_true, bne_self_eq_false]; rfl))
theorem s140n (L n : Nat) (hi lo : Int) (k : Kont) : LB tab spS lsp1 L (n+4) h140 c14l0 (S140 .nilsl hi lo 0) k =
   (k (Ex.ex (0 : Nat))
 (St.of [(4, AV.ptr 4 2 0 0)]
 [(17, none), (4, some (Ob.dat 49 2 [[DV.int .i64 hi, DV.int .i64 lo]]))])) :=
  (show LB tab spS lsp1 L (n+4) h140 c14l0 (S140 .nilsl hi lo 0) k =
 (k (.ex 0) (St.of [(4, (.ptr 4 2 0 0))] [(17, .none), (4, (.some (.dat 49 2 [[(.int .i64 hi), (.int .i64 lo)]])))])) from by kernel_rfl).trans (by first | rfl | (simp only [decide_true, decide_false, eq_self, and_true, true_and, and_self, cond_true, cond_false, Nat.le_refl, Int.le_refl, Option.getD_some, Option.getD_none, Int.toNat_natCast, List.take_length, List.drop_zero, Nat.zero_add, List.nil_append, List.all_nil, List.append_nil, Bool.true_and, Bool.and_true, rowsA_sla, rowsA_sl, rowsA_nil, minus_zero, nat_le_cast, nat_nonneg, Option.isSome_some, Option.isSome_none, Bool.false_eq_true, false_and, and_false, if_true, if_false, implies_true, Int.toNat_zero, Bool.not_false, Bool.not_true, bne_self_eq_false]; done) | (simp only [decide_true, decide_false, eq_self, and_true, true_and, and_self, cond_true, cond_false, Nat.le_refl, Int.le_refl, Option.getD_some, Option.getD_none, Int.toNat_natCast, List.take_length, List.drop_zero, Nat.zero_add, List.nil_append, List.all_nil, List.append_nil, Bool.true_and, Bool.and_true, rowsA_sla, rowsA_sl, rowsA_nil, minus_zero, nat_le_cast, nat_nonneg, Option.isSome_some, Option.isSome_none, Bool.false_eq_true, false_and, and_false, if_true, if_false, implies_true, Int.toNat_zero, Bool.not_false, Bool.not_true, bne_self_eq_false]; rfl))
theorem t14 (L n : Nat) (q : SK) (es : List (List DV)) : FK tab spS lsp1 L (n+6) 14 [.sl q 1 es] =
   (need
 (LoopOk (LB tab spS lsp1 L (n + (6 : Nat)) h140 c14l0)
 (St.of
 [(0, AV.d (DV.sl q (1 : Nat) es)), (4, AV.ptr 4 2 0 0),
 ((5 : Nat), AV.d (DV.int .i64 0))]
 [(17, none), (4, some (Ob.dat 49 2 [[DV.int .i64 0, DV.int .i64 0]]))])
 (Ex.ex (0 : Nat),
 St.of [(4, AV.ptr 4 2 0 0)]
 [(17, none),
 ((4 : Nat),
 some
 (Ob.dat 49 2
 [[DV.int .i64 (sumZ (rows (DV.sl q (1 : Nat) es)) / (4294967296 : Int)), DV.int .i64 (sumZ (rows (DV.sl q (1 : Nat) es)) % (4294967296 : Int))]]))]))
 (bif
 bif decide (sumZ (rows (DV.sl q (1 : Nat) es)) / (4294967296 : Int) < (-2147483648 : Int)) then true
 else decide (sumZ (rows (DV.sl q (1 : Nat) es)) / (4294967296 : Int) ≥ (2147483648 : Int)) then
 some (DV.tuple [DV.int .i64 0, DV.bool false])
 else
 some
 (DV.tuple
 [DV.int .i64
 (IntKind.i64.wrap
 (IntKind.i64.wrap (sumZ (rows (DV.sl q (1 : Nat) es)) / (4294967296 : Int) * (2 : Int) ^ min (32 : Nat) IntKind.i64.bits) +
 sumZ (rows (DV.sl q (1 : Nat) es)) % (4294967296 : Int))),
 DV.bool true]))) :=
  (show FK tab spS lsp1 L (n+6) 14 [.sl q 1 es] =
 (need (LoopOk (LB tab spS lsp1 L (n + (6 : Nat)) h140 c14l0) (St.of [(0, (.d (.sl q 1 es))), (4, (.ptr 4 2 0 0)), (5, (.d (.int .i64 ((0 : Int)))))] [(17, .none), (4, (.some (.dat 49 2 [[(.int .i64 ((0 : Int))), (.int .i64 ((0 : Int)))]])))]) ((.ex 0), (St.of [(4, (.ptr 4 2 0 0))] [(17, .none), (4, (.some (.dat 49 2 [[(.int .i64 (sumZ (rows (DV.sl q (1 : Nat) es)) / (4294967296 : Int))), (.int .i64 (sumZ (rows (DV.sl q (1 : Nat) es)) % (4294967296 : Int)))]])))])))
 (cond (bif decide (sumZ (rows (DV.sl q (1 : Nat) es)) / (4294967296 : Int) < (-2147483648 : Int)) then true else decide (sumZ (rows (DV.sl q (1 : Nat) es)) / (4294967296 : Int) ≥ (2147483648 : Int)))
 (some (.tuple [(.int .i64 ((0 : Int))), (.bool false)]))
 (some (.tuple [(.int .i64 (IntKind.i64.wrap (IntKind.i64.wrap (sumZ (rows (DV.sl q (1 : Nat) es)) / (4294967296 : Int) * (2 : Int) ^ min (32 : Nat) IntKind.i64.bits) + sumZ (rows (DV.sl q (1 : Nat) es)) % (4294967296 : Int)))), (.bool true)])))) from by kernel_rfl).trans (by first | rfl | (simp only [decide_true, decide_false, eq_self, and_true, true_and, and_self, cond_true, cond_false, Nat.le_refl, Int.le_refl, Option.getD_some, Option.getD_none, Int.toNat_natCast, List.take_length, List.drop_zero, Nat.zero_add, List.nil_append, List.all_nil, List.append_nil, Bool.true_and, Bool.and_true, rowsA_sla, rowsA_sl, rowsA_nil, minus_zero, nat_le_cast, nat_nonneg, Option.isSome_some, Option.isSome_none, Bool.false_eq_true, false_and, and_false, if_true, if_false, implies_true, Int.toNat_zero, Bool.not_false, Bool.not_true, bne_self_eq_false]; done) | (simp only [decide_true, decide_false, eq_self, and_true, true_and, and_self, cond_true, cond_false, Nat.le_refl, Int.le_refl, Option.getD_some, Option.getD_none, Int.toNat_natCast, List.take_length, List.drop_zero, Nat.zero_add, List.nil_append, List.all_nil, List.append_nil, Bool.true_and, Bool.and_true, rowsA_sla, rowsA_sl, rowsA_nil, minus_zero, nat_le_cast, nat_nonneg, Option.isSome_some, Option.isSome_none, Bool.false_eq_true, false_and, and_false, if_true, if_false, implies_true, Int.toNat_zero, Bool.not_false, Bool.not_true, bne_self_eq_false]; rfl))
theorem t14n (L n : Nat) : FK tab spS lsp1 L (n+6) 14 [.nilsl] =
   (need
 (LoopOk (LB tab spS lsp1 L (n + (6 : Nat)) h140 c14l0)
 (St.of [(0, AV.d DV.nilsl), (4, AV.ptr 4 2 0 0), (5, AV.d (DV.int .i64 0))]
 [(17, none), (4, some (Ob.dat 49 2 [[DV.int .i64 0, DV.int .i64 0]]))])
 (Ex.ex (0 : Nat),
 St.of [(4, AV.ptr 4 2 0 0)]
 [(17, none),
 ((4 : Nat),
 some
 (Ob.dat 49 2
 [[DV.int .i64 (sumZ (rows DV.nilsl) / (4294967296 : Int)), DV.int .i64 (sumZ (rows DV.nilsl) % (4294967296 : Int))]]))]))
 (some
 (DV.tuple
 [DV.int .i64
 (IntKind.i64.wrap
 (IntKind.i64.wrap (sumZ (rows DV.nilsl) / (4294967296 : Int) * (2 : Int) ^ min (32 : Nat) IntKind.i64.bits) +
 sumZ (rows DV.nilsl) % (4294967296 : Int))),
 DV.bool true]))) :=
  (show FK tab spS lsp1 L (n+6) 14 [.nilsl] =
 (need (LoopOk (LB tab spS lsp1 L (n + (6 : Nat)) h140 c14l0) (St.of [(0, (.d .nilsl)), (4, (.ptr 4 2 0 0)), (5, (.d (.int .i64 ((0 : Int)))))] [(17, .none), (4, (.some (.dat 49 2 [[(.int .i64 ((0 : Int))), (.int .i64 ((0 : Int)))]])))]) ((.ex 0), (St.of [(4, (.ptr 4 2 0 0))] [(17, .none), (4, (.some (.dat 49 2 [[(.int .i64 (sumZ (rows DV.nilsl) / (4294967296 : Int))), (.int .i64 (sumZ (rows DV.nilsl) % (4294967296 : Int)))]])))])))
 (some (.tuple [(.int .i64 (IntKind.i64.wrap (IntKind.i64.wrap (sumZ (rows DV.nilsl) / (4294967296 : Int) * (2 : Int) ^ min (32 : Nat) IntKind.i64.bits) + sumZ (rows DV.nilsl) % (4294967296 : Int)))), (.bool true)]))) from by kernel_rfl).trans (by first | rfl | (simp only [decide_true, decide_false, eq_self, and_true, true_and, and_self, cond_true, cond_false, Nat.le_refl, Int.le_refl, Option.getD_some, Option.getD_none, Int.toNat_natCast, List.take_length, List.drop_zero, Nat.zero_add, List.nil_append, List.all_nil, List.append_nil, Bool.true_and, Bool.and_true, rowsA_sla, rowsA_sl, rowsA_nil, minus_zero, nat_le_cast, nat_nonneg, Option.isSome_some, Option.isSome_none, Bool.false_eq_true, false_and, and_false, if_true, if_false, implies_true, Int.toNat_zero, Bool.not_false, Bool.not_true, bne_self_eq_false]; done) | (simp only [decide_true, decide_false, eq_self, and_true, true_and, and_self, cond_true, cond_false, Nat.le_refl, Int.le_refl, Option.getD_some, Option.getD_none, Int.toNat_natCast, List.take_length, List.drop_zero, Nat.zero_add, List.nil_append, List.all_nil, List.append_nil, Bool.true_and, Bool.and_true, rowsA_sla, rowsA_sl, rowsA_nil, minus_zero, nat_le_cast, nat_nonneg, Option.isSome_some, Option.isSome_none, Bool.false_eq_true, false_and, and_false, if_true, if_false, implies_true, Int.toNat_zero, Bool.not_false, Bool.not_true, bne_self_eq_false]; rfl))
theorem wU' (n : Int) : IntKind.u64.wrap n = n % 18446744073709551616 := by simp [IntKind.wrap, IntKind.bits, IntKind.signed]
theorem shr63 (n : Int) : n.fdiv ((2 : Int) ^ min (63 : Nat) IntKind.i64.bits) = n / 9223372036854775808 := by
  rw [show (2 : Int) ^ min (63 : Nat) IntKind.i64.bits = 9223372036854775808 from by decide, Int.fdiv_eq_ediv_of_nonneg _ (by omega)]
theorem shr32 (n : Int) : n.fdiv ((2 : Int) ^ min (32 : Nat) IntKind.i64.bits) = n / 4294967296 := by
  rw [show (2 : Int) ^ min (32 : Nat) IntKind.i64.bits = 4294967296 from by decide, Int.fdiv_eq_ediv_of_nonneg _ (by omega)]
theorem shl32 (n : Int) : n * (2 : Int) ^ min (32 : Nat) IntKind.i64.bits = n * 4294967296 := by
  rw [show (2 : Int) ^ min (32 : Nat) IntKind.i64.bits = 4294967296 from by decide]
theorem maskI (n : Int) : (((BitVec.ofInt IntKind.i64.bits n &&& BitVec.ofInt IntKind.i64.bits (4294967295 : Int)).toNat : Nat) : Int) = n % 4294967296 := by
  have h : (BitVec.ofInt 64 n &&& BitVec.ofInt 64 (4294967295 : Int)).toNat = (n % 4294967296).toNat := by
    rw [BitVec.toNat_and, BitVec.toNat_ofInt, BitVec.toNat_ofInt]
    have e2 : ((4294967295 : Int) % ((2 ^ 64 : Nat) : Int)).toNat = 2 ^ 32 - 1 := by decide
    rw [e2, Nat.and_two_pow_sub_one_eq_mod]
    omega
  have h2 : (((BitVec.ofInt IntKind.i64.bits n &&& BitVec.ofInt IntKind.i64.bits (4294967295 : Int)).toNat : Nat) : Int) = ((n % 4294967296).toNat : Int) := congrArg Int.ofNat h
  rw [h2]
  omega
def Row64 (s : DV) : Prop := Vm.Rows z1 1048576 s ∧ ∀ e ∈ rows s, is64 (cel e)
theorem sumZ_append : ∀ (a b : List (List DV)), sumZ (a ++ b) = sumZ a + sumZ b
  | [], b => by simp [sumZ]
  | e :: a, b => by simp [sumZ, sumZ_append a b, Int.add_assoc]
theorem sumZ_take {es : List (List DV)} {i : Nat} (hi : i < es.length) : sumZ (es.take (i + 1)) = sumZ (es.take i) + cel es[i] := by
  rw [List.take_succ_eq_append_getElem hi, sumZ_append]
  simp [sumZ]
theorem sumZ_bound : ∀ (es : List (List DV)), (∀ e ∈ es, is64 (cel e)) → -9223372036854775808 * (es.length : Int) ≤ sumZ es ∧ sumZ es ≤ 9223372036854775807 * (es.length : Int)
  | [], _ => by simp [sumZ]
  | e :: es, h => by
    have h1 := h e (by simp)
    have h2 := sumZ_bound es fun e he => h e (by simp [he])
    simp only [sumZ, List.length_cons]
    unfold is64 at h1
    omega
theorem loop130 (L n : Nat) {s : DV} (hs : Row64 s) : LoopOk (LB tab spS lsp1 L (n+4) h130 c13l0) (S130 s 0 0 (rows s).length 0) (.ex 0, E130 (sumZ (rows s) / 18446744073709551616) (sumZ (rows s) % 18446744073709551616)) := by
  obtain ⟨hr, h64⟩ := hs
  rcases hr with rfl | ⟨q, es, rfl, hz, hl⟩
  · exact loop_one (by simp) fun k => s130n L n _ 0 0 k
  · have hb : ∀ i, i ≤ es.length → -9223372036854775808 * (i : Int) ≤ sumZ (es.take i) ∧ sumZ (es.take i) ≤ 9223372036854775807 * (i : Int) := fun i hi => by
      have := sumZ_bound (es.take i) fun e he => h64 e (List.mem_of_mem_take he)
      rw [List.length_take, Nat.min_eq_left hi] at this
      exact this
    have key := loop_rounds (f := LB tab spS lsp1 L (n+4) h130 c13l0) (fun i => S130 (.sl q 1 es) (sumZ (es.take i) / 18446744073709551616) (sumZ (es.take i) % 18446744073709551616) es.length (i : Nat))
      (fun _ => (.ex 0, E130 (sumZ es / 18446744073709551616) (sumZ es % 18446744073709551616))) es.length
      (fun i hi => by
        refine .inl ⟨fun k => ?_, rfl⟩
        have he : es[i]? = some es[i] := List.getElem?_eq_getElem hi
        have hw : IntKind.i64.wrap ((i : Int) + 1) = ((i + 1 : Nat) : Int) := by rw [wrap_fits] <;> omega
        have hzi := hz es[i] (List.getElem_mem hi)
        have hlt : ((i : Int) < (es.length : Int)) := by omega
        have hc : is64 (cel es[i]) := h64 _ (List.getElem_mem hi)
        obtain ⟨c1, c2⟩ := hc
        obtain ⟨b1, b2⟩ := hb i (by omega)
        rw [s130, sumZ_take hi]
        simp only [Int.toNat_natCast, he, lookK_some, hzi, cond_true, hlt, decide_true, hw]
        rw [show (cellA es[i] (0 : Nat)).toI = cel es[i] from rfl, wU', shr63]
        generalize cel es[i] = c at *
        generalize sumZ (es.take i) = T at *
        have w1 : IntKind.i64.wrap ((T % 18446744073709551616 + c % 18446744073709551616) / 18446744073709551616) = (T % 18446744073709551616 + c % 18446744073709551616) / 18446744073709551616 := wrap_fits (by omega) (by omega)
        have w2 : IntKind.i64.wrap (c / 9223372036854775808 + (T % 18446744073709551616 + c % 18446744073709551616) / 18446744073709551616) = c / 9223372036854775808 + (T % 18446744073709551616 + c % 18446744073709551616) / 18446744073709551616 := wrap_fits (by omega) (by omega)
        have w3 : IntKind.i64.wrap (T / 18446744073709551616 + (c / 9223372036854775808 + (T % 18446744073709551616 + c % 18446744073709551616) / 18446744073709551616)) = (T + c) / 18446744073709551616 := by
          rw [wrap_fits] <;> omega
        rw [w1, w2, w3, show (T % 18446744073709551616 + c % 18446744073709551616) % 18446744073709551616 = (T + c) % 18446744073709551616 by omega]
        refine need_pos ⟨(T % 18446744073709551616).toNat, (c % 18446744073709551616).toNat, ?_, by omega, by omega⟩
        rw [Int.toNat_of_nonneg (by omega), Int.toNat_of_nonneg (by omega)])
      (by
        refine ⟨by simp, fun k => ?_⟩
        rw [s130]
        simp only [Int.lt_irrefl, decide_false, cond_false, List.take_length]
        rfl)
    exact key 0 (Nat.zero_le _)
theorem loop140 (L n : Nat) {s : DV} (hs : Row64 s) : LoopOk (LB tab spS lsp1 L (n+4) h140 c14l0) (S140 s 0 0 0) (.ex 0, E140 (sumZ (rows s) / 4294967296) (sumZ (rows s) % 4294967296)) := by
  obtain ⟨hr, h64⟩ := hs
  rcases hr with rfl | ⟨q, es, rfl, hz, hl⟩
  · exact loop_one (by simp) fun k => s140n L n 0 0 k
  · have hb : ∀ i, i ≤ es.length → -9223372036854775808 * (i : Int) ≤ sumZ (es.take i) ∧ sumZ (es.take i) ≤ 9223372036854775807 * (i : Int) := fun i hi => by
      have := sumZ_bound (es.take i) fun e he => h64 e (List.mem_of_mem_take he)
      rw [List.length_take, Nat.min_eq_left hi] at this
      exact this
    have key := loop_rounds (f := LB tab spS lsp1 L (n+4) h140 c14l0) (fun i => S140 (.sl q 1 es) (sumZ (es.take i) / 4294967296) (sumZ (es.take i) % 4294967296) (i : Nat))
      (fun _ => (.ex 0, E140 (sumZ es / 4294967296) (sumZ es % 4294967296))) es.length
      (fun i hi => by
        refine .inl ⟨fun k => ?_, rfl⟩
        have he : es[i]? = some es[i] := List.getElem?_eq_getElem hi
        have hw : IntKind.i64.wrap ((i : Int) + 1) = ((i + 1 : Nat) : Int) := by rw [wrap_fits] <;> omega
        have hzi := hz es[i] (List.getElem_mem hi)
        have hlt : ((i : Int) < (es.length : Int)) := by omega
        have hc : is64 (cel es[i]) := h64 _ (List.getElem_mem hi)
        obtain ⟨c1, c2⟩ := hc
        obtain ⟨b1, b2⟩ := hb i (by omega)
        rw [s140, sumZ_take hi]
        simp only [Int.toNat_natCast, he, lookK_some, hzi, cond_true, hlt, decide_true, hw]
        rw [show (cellA es[i] (0 : Nat)).toI = cel es[i] from rfl]
        simp only [shr32, maskI]
        generalize cel es[i] = c at *
        generalize sumZ (es.take i) = T at *
        have w1 : IntKind.i64.wrap (c % 4294967296) = c % 4294967296 := wrap_fits (by omega) (by omega)
        have w2 : IntKind.i64.wrap (T % 4294967296 + c % 4294967296) = T % 4294967296 + c % 4294967296 := wrap_fits (by omega) (by omega)
        have w3 : IntKind.i64.wrap (T / 4294967296 + c / 4294967296) = T / 4294967296 + c / 4294967296 := wrap_fits (by omega) (by omega)
        have w4 : IntKind.i64.wrap (T / 4294967296 + c / 4294967296 + (T % 4294967296 + c % 4294967296) / 4294967296) = (T + c) / 4294967296 := by
          rw [wrap_fits] <;> omega
        have w5 : IntKind.i64.wrap ((T % 4294967296 + c % 4294967296) % 4294967296) = (T + c) % 4294967296 := by
          rw [wrap_fits] <;> omega
        rw [w1, w2, w3, w4, w5]
        rfl)
      (by
        refine ⟨by simp, fun k => ?_⟩
        rw [s140]
        simp only [Int.lt_irrefl, decide_false, cond_false, List.take_length]
        rfl)
    exact key 0 (Nat.zero_le _)
def fitsB (T : Int) : Bool := decide (-9223372036854775808 ≤ T ∧ T ≤ 9223372036854775807)
def sumS : FSpec where
  D ds := ∃ s, ds = [s] ∧ Row64 s
  val ds := match ds with | [s] => some (.tuple [.int .i64 (cond (fitsB (sumZ (rows s))) (sumZ (rows s)) 0), .bool (fitsB (sumZ (rows s)))]) | _ => none
theorem len64 {s : DV} (hs : Row64 s) : ((rows s).length : Int) ≤ 1048576 := by
  obtain ⟨hr, _⟩ := hs
  rcases hr with rfl | ⟨q, es, rfl, _, hl⟩
  · simp [rows]
  · simp only [rows]; omega
theorem sum13 : sumS.ok Try.prog 13 := fspec_ok (lsp := lsp1) tab_ok spS_ok fun ds hD => by
  obtain ⟨s, rfl, hs⟩ := hD
  refine ⟨100, 0 + 6, ?_⟩
  have hl := loop130 100 (0 + 2) hs
  have hb := sumZ_bound (rows s) hs.2
  have hn := len64 hs
  have hlen0 : (0 : Int) ≤ ((rows s).length : Int) := by omega
  have main : (cond (sumZ (rows s) / 18446744073709551616 != (IntKind.i64.wrap (sumZ (rows s) % 18446744073709551616)).fdiv ((2 : Int) ^ min (63 : Nat) IntKind.i64.bits))
      (some (DV.tuple [.int .i64 0, .bool false])) (some (.tuple [.int .i64 (IntKind.i64.wrap (sumZ (rows s) % 18446744073709551616)), .bool true]))) = sumS.val [s] := by
    simp only [sumS]
    rw [shr63, wrap_i64]
    generalize sumZ (rows s) = T at *
    generalize ((rows s).length : Int) = N at *
    cases hf : fitsB T with
    | true =>
      have hf' := of_decide_eq_true hf
      have e1 : (if T % 18446744073709551616 % 18446744073709551616 ≥ 9223372036854775808 then T % 18446744073709551616 % 18446744073709551616 - 18446744073709551616 else T % 18446744073709551616 % 18446744073709551616) = T := by
        split <;> omega
      rw [e1]
      have e2 : (T / 18446744073709551616 != T / 9223372036854775808) = false := by
        rw [bne_eq_false_iff_eq]
        omega
      rw [e2]
      rfl
    | false =>
      have hf' := of_decide_eq_false hf
      have e2 : (T / 18446744073709551616 != (if T % 18446744073709551616 % 18446744073709551616 ≥ 9223372036854775808 then T % 18446744073709551616 % 18446744073709551616 - 18446744073709551616 else T % 18446744073709551616 % 18446744073709551616) / 9223372036854775808) = true := by
        rw [bne_iff_ne]
        split <;> omega
      rw [e2]
      rfl
  rcases hs.1 with rfl | ⟨q, es, rfl, hz, _⟩
  · exact (t13n 100 0).trans ((need_pos hl).trans rfl)
  · exact (t13 100 0 q es).trans ((need_pos hl).trans main)
theorem sum14 : sumS.ok Try.prog 14 := fspec_ok (lsp := lsp1) tab_ok spS_ok fun ds hD => by
  obtain ⟨s, rfl, hs⟩ := hD
  refine ⟨100, 0 + 6, ?_⟩
  have hl := loop140 100 (0 + 2) hs
  have hb := sumZ_bound (rows s) hs.2
  have hn := len64 hs
  have hlen0 : (0 : Int) ≤ ((rows s).length : Int) := by omega
  have main : (cond (bif decide (sumZ (rows s) / 4294967296 < (-2147483648 : Int)) then true else decide (sumZ (rows s) / 4294967296 ≥ (2147483648 : Int)))
      (some (DV.tuple [.int .i64 0, .bool false])) (some (.tuple [.int .i64 (IntKind.i64.wrap (IntKind.i64.wrap (sumZ (rows s) / 4294967296 * (2 : Int) ^ min (32 : Nat) IntKind.i64.bits) + sumZ (rows s) % 4294967296)), .bool true]))) = sumS.val [s] := by
    simp only [sumS]
    rw [shl32]
    generalize sumZ (rows s) = T at *
    generalize ((rows s).length : Int) = N at *
    cases hf : fitsB T with
    | true =>
      have hf' := of_decide_eq_true hf
      rw [decide_eq_false (show ¬ T / 4294967296 < -2147483648 by omega), decide_eq_false (show ¬ T / 4294967296 ≥ 2147483648 by omega)]
      rw [show IntKind.i64.wrap (T / 4294967296 * 4294967296) = T / 4294967296 * 4294967296 from wrap_fits (by omega) (by omega), show IntKind.i64.wrap (T / 4294967296 * 4294967296 + T % 4294967296) = T by rw [wrap_fits] <;> omega]
      rfl
    | false =>
      have hf' := of_decide_eq_false hf
      have : (bif decide (T / 4294967296 < (-2147483648 : Int)) then true else decide (T / 4294967296 ≥ (2147483648 : Int))) = true := by
        simp
        omega
      rw [this]
      rfl
  rcases hs.1 with rfl | ⟨q, es, rfl, hz, _⟩
  · exact (t14n 100 0).trans ((need_pos hl).trans rfl)
  · exact (t14 100 0 q es).trans ((need_pos hl).trans main)
end Go.Proofs.Ytianifckopijjaa
