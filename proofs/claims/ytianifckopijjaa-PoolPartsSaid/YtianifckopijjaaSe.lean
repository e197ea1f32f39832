/- What is known of the long division by ten thousand, by its runs. No condition. -/
import Derived.Test.YtianifckopijjaaSa
import Derived.Test.YtianifckopijjaaLen
namespace Go.Proofs.Ytianifckopijjaa
open Go Go.Proofs Go.RowKit Vm
set_option linter.unusedVariables false
set_option linter.unusedSimpArgs false
def lenS : FSpec where
  D ds := ds = [.int .u64 10000]
  val ds := some (.int .i64 14)
noncomputable def spL : FuncId → Option FSpec := spAdd 40 lenS noSp
def uU (a c : Nat) : Nat := a * 1125899906842624 + c / 16384
def uV (c : Nat) : Nat := c % 16384 * 262144
def uW (a c : Nat) : Nat := uU a c % 2621440000 * 4294967296 + uV c
def X320 (a c : Nat) : St := St.of [(2, .d (.int .u64 11258999068426240000)), (8, .d (.int .u64 50)), (9, .d (.int .u64 2621440000)), (10, .d (.int .u64 0)), (11, .d (.int .u64 (uU a c : Nat))), (13, .d (.int .u64 (uV c : Nat))), (14, .d (.int .u64 0)), (15, .d (.int .u64 (uU a c / 2621440000 : Nat)))] []
def X321 (a c : Nat) : St := St.of [(2, .d (.int .u64 11258999068426240000)), (8, .d (.int .u64 50)), (14, .d (.int .u64 0)), (15, .d (.int .u64 (uU a c / 2621440000 : Nat))), (17, .d (.int .u64 (uW a c : Nat))), (18, .d (.int .u64 (uW a c / 2621440000 : Nat)))] []
def lspD (a c : Nat) (k : Nat) : Option LSpec :=
  if k = 320 then some (fun _ => .one (.ex 0) (X320 a c)) else
  if k = 321 then some (fun _ => .one (.ex 2) (X321 a c)) else none
def S320 (y s p q u v z x r : Int) : St := St.of [(2, .d (.int .u64 y)), (8, .d (.int .u64 s)), (9, .d (.int .u64 p)), (10, .d (.int .u64 q)), (11, .d (.int .u64 u)), (13, .d (.int .u64 v)), (14, .d (.int .u64 z)), (15, .d (.int .u64 x)), (16, .d (.int .u64 r))] []
def S321 (y s p q z x r u v : Int) : St := St.of [(2, .d (.int .u64 y)), (8, .d (.int .u64 s)), (9, .d (.int .u64 p)), (10, .d (.int .u64 q)), (14, .d (.int .u64 z)), (15, .d (.int .u64 x)), (16, .d (.int .u64 r)), (17, .d (.int .u64 u)), (18, .d (.int .u64 v))] []
theorem t32g (L n : Nat) (a c : Nat) : FK tab spL (lspD a c) 20 (n+8) 32 [.int .u64 a, .int .u64 c, .int .u64 10000] =
   (bif decide ((10000 : Int) ≤ (↑a : Int)) then none
 else
 bif (↑a : Int) == (0 : Int) then
 some (DV.tuple [DV.int IntKind.u64 (IntKind.u64.wrap ((↑c : Int).tdiv (10000 : Int))), DV.int IntKind.u64 ((↑c : Int).tmod (10000 : Int))])
 else
 need (lenS.D [DV.int IntKind.u64 (10000 : Int)])
 (need
 (LoopOk (LB tab spL (lspD a c) (20 : Nat) (n + (8 : Nat)) h320 c32l0)
 (St.of
 [((2 : Nat),
 AV.d
 (DV.int IntKind.u64
 (IntKind.u64.wrap ((10000 : Int) * (2 : Int) ^ min (IntKind.u64.wrap (IntKind.i64.wrap (50 : Int))).toNat IntKind.u64.bits)))),
 ((8 : Nat), AV.d (DV.int IntKind.u64 (IntKind.u64.wrap (IntKind.i64.wrap (50 : Int))))),
 ((9 : Nat),
 AV.d
 (DV.int IntKind.u64
 ((IntKind.u64.wrap ((10000 : Int) * (2 : Int) ^ min (IntKind.u64.wrap (IntKind.i64.wrap (50 : Int))).toNat IntKind.u64.bits)).fdiv
 ((2 : Int) ^ min (32 : Nat) IntKind.u64.bits)))),
 ((10 : Nat),
 AV.d
 (DV.int IntKind.u64
 (IntKind.u64.wrap
 (↑(BitVec.ofInt IntKind.u64.bits
 (IntKind.u64.wrap ((10000 : Int) * (2 : Int) ^ min (IntKind.u64.wrap (IntKind.i64.wrap (50 : Int))).toNat IntKind.u64.bits)) &&&
 BitVec.ofInt IntKind.u64.bits (4294967295 : Int)).toNat :
 Int)))),
 ((11 : Nat),
 AV.d
 (DV.int IntKind.u64
 (IntKind.u64.wrap
 (↑(BitVec.ofInt IntKind.u64.bits
 (IntKind.u64.wrap ((↑a : Int) * (2 : Int) ^ min (IntKind.u64.wrap (IntKind.i64.wrap (50 : Int))).toNat IntKind.u64.bits)) |||
 BitVec.ofInt IntKind.u64.bits
 ((↑c : Int).fdiv
 ((2 : Int) ^
 min (IntKind.u64.wrap ((64 : Int) - IntKind.u64.wrap (IntKind.i64.wrap (50 : Int)))).toNat IntKind.u64.bits))).toNat :
 Int)))),
 ((13 : Nat),
 AV.d
 (DV.int IntKind.u64
 ((IntKind.u64.wrap ((↑c : Int) * (2 : Int) ^ min (IntKind.u64.wrap (IntKind.i64.wrap (50 : Int))).toNat IntKind.u64.bits)).fdiv
 ((2 : Int) ^ min (32 : Nat) IntKind.u64.bits)))),
 ((14 : Nat),
 AV.d
 (DV.int IntKind.u64
 (IntKind.u64.wrap
 (↑(BitVec.ofInt IntKind.u64.bits
 (IntKind.u64.wrap ((↑c : Int) * (2 : Int) ^ min (IntKind.u64.wrap (IntKind.i64.wrap (50 : Int))).toNat IntKind.u64.bits)) &&&
 BitVec.ofInt IntKind.u64.bits (4294967295 : Int)).toNat :
 Int)))),
 ((15 : Nat),
 AV.d
 (DV.int IntKind.u64
 (IntKind.u64.wrap
 ((IntKind.u64.wrap
 (↑(BitVec.ofInt IntKind.u64.bits
 (IntKind.u64.wrap
 ((↑a : Int) * (2 : Int) ^ min (IntKind.u64.wrap (IntKind.i64.wrap (50 : Int))).toNat IntKind.u64.bits)) |||
 BitVec.ofInt IntKind.u64.bits
 ((↑c : Int).fdiv
 ((2 : Int) ^
 min (IntKind.u64.wrap ((64 : Int) - IntKind.u64.wrap (IntKind.i64.wrap (50 : Int)))).toNat IntKind.u64.bits))).toNat :
 Int)).tdiv
 ((IntKind.u64.wrap ((10000 : Int) * (2 : Int) ^ min (IntKind.u64.wrap (IntKind.i64.wrap (50 : Int))).toNat IntKind.u64.bits)).fdiv
 ((2 : Int) ^ min (32 : Nat) IntKind.u64.bits)))))),
 ((16 : Nat),
 AV.d
 (DV.int IntKind.u64
 (IntKind.u64.wrap
 (IntKind.u64.wrap
 (↑(BitVec.ofInt IntKind.u64.bits
 (IntKind.u64.wrap
 ((↑a : Int) * (2 : Int) ^ min (IntKind.u64.wrap (IntKind.i64.wrap (50 : Int))).toNat IntKind.u64.bits)) |||
 BitVec.ofInt IntKind.u64.bits
 ((↑c : Int).fdiv
 ((2 : Int) ^
 min (IntKind.u64.wrap ((64 : Int) - IntKind.u64.wrap (IntKind.i64.wrap (50 : Int)))).toNat IntKind.u64.bits))).toNat :
 Int) -
 IntKind.u64.wrap
 (IntKind.u64.wrap
 ((IntKind.u64.wrap
 (↑(BitVec.ofInt IntKind.u64.bits
 (IntKind.u64.wrap
 ((↑a : Int) * (2 : Int) ^ min (IntKind.u64.wrap (IntKind.i64.wrap (50 : Int))).toNat IntKind.u64.bits)) |||
 BitVec.ofInt IntKind.u64.bits
 ((↑c : Int).fdiv
 ((2 : Int) ^
 min (IntKind.u64.wrap ((64 : Int) - IntKind.u64.wrap (IntKind.i64.wrap (50 : Int)))).toNat
 IntKind.u64.bits))).toNat :
 Int)).tdiv
 ((IntKind.u64.wrap
 ((10000 : Int) * (2 : Int) ^ min (IntKind.u64.wrap (IntKind.i64.wrap (50 : Int))).toNat IntKind.u64.bits)).fdiv
 ((2 : Int) ^ min (32 : Nat) IntKind.u64.bits))) *
 (IntKind.u64.wrap ((10000 : Int) * (2 : Int) ^ min (IntKind.u64.wrap (IntKind.i64.wrap (50 : Int))).toNat IntKind.u64.bits)).fdiv
 ((2 : Int) ^ min (32 : Nat) IntKind.u64.bits))))))]
 [])
 (Ex.ex (0 : Nat),
 St.of
 [(2, AV.d (DV.int IntKind.u64 (11258999068426240000 : Int))), (8, AV.d (DV.int IntKind.u64 (50 : Int))),
 ((9 : Nat), AV.d (DV.int IntKind.u64 (2621440000 : Int))), (10, AV.d (DV.int IntKind.u64 (0 : Int))),
 ((11 : Nat), AV.d (DV.int IntKind.u64 (↑(uU a c) : Int))), (13, AV.d (DV.int IntKind.u64 (↑(uV c) : Int))),
 ((14 : Nat), AV.d (DV.int IntKind.u64 (0 : Int))), (15, AV.d (DV.int IntKind.u64 (↑(uU a c / (2621440000 : Nat)) : Int)))]
 []))
 (need
 (LoopOk (LB tab spL (lspD a c) (20 : Nat) (n + (8 : Nat)) h321 c32l1)
 (St.of
 [(2, AV.d (DV.int IntKind.u64 (11258999068426240000 : Int))), (8, AV.d (DV.int IntKind.u64 (50 : Int))),
 ((9 : Nat), AV.d (DV.int IntKind.u64 (2621440000 : Int))), (10, AV.d (DV.int IntKind.u64 (0 : Int))),
 ((14 : Nat), AV.d (DV.int IntKind.u64 (0 : Int))), (15, AV.d (DV.int IntKind.u64 (↑(uU a c / (2621440000 : Nat)) : Int))),
 ((16 : Nat),
 AV.d
 (DV.int IntKind.u64
 (IntKind.u64.wrap
 (IntKind.u64.wrap
 (IntKind.u64.wrap (IntKind.u64.wrap ((↑(uU a c) : Int) * (4294967296 : Int)) + (↑(uV c) : Int)) -
 IntKind.u64.wrap ((↑(uU a c / (2621440000 : Nat)) : Int) * (11258999068426240000 : Int))) -
 IntKind.u64.wrap
 (IntKind.u64.wrap
 ((IntKind.u64.wrap
 (IntKind.u64.wrap (IntKind.u64.wrap ((↑(uU a c) : Int) * (4294967296 : Int)) + (↑(uV c) : Int)) -
 IntKind.u64.wrap ((↑(uU a c / (2621440000 : Nat)) : Int) * (11258999068426240000 : Int)))).tdiv
 (2621440000 : Int)) *
 (2621440000 : Int)))))),
 ((17 : Nat),
 AV.d
 (DV.int IntKind.u64
 (IntKind.u64.wrap
 (IntKind.u64.wrap (IntKind.u64.wrap ((↑(uU a c) : Int) * (4294967296 : Int)) + (↑(uV c) : Int)) -
 IntKind.u64.wrap ((↑(uU a c / (2621440000 : Nat)) : Int) * (11258999068426240000 : Int)))))),
 ((18 : Nat),
 AV.d
 (DV.int IntKind.u64
 (IntKind.u64.wrap
 ((IntKind.u64.wrap
 (IntKind.u64.wrap (IntKind.u64.wrap ((↑(uU a c) : Int) * (4294967296 : Int)) + (↑(uV c) : Int)) -
 IntKind.u64.wrap ((↑(uU a c / (2621440000 : Nat)) : Int) * (11258999068426240000 : Int)))).tdiv
 (2621440000 : Int)))))]
 [])
 (Ex.ex (2 : Nat),
 St.of
 [(2, AV.d (DV.int IntKind.u64 (11258999068426240000 : Int))), (8, AV.d (DV.int IntKind.u64 (50 : Int))),
 ((14 : Nat), AV.d (DV.int IntKind.u64 (0 : Int))), (15, AV.d (DV.int IntKind.u64 (↑(uU a c / (2621440000 : Nat)) : Int))),
 ((17 : Nat), AV.d (DV.int IntKind.u64 (↑(uW a c) : Int))), (18, AV.d (DV.int IntKind.u64 (↑(uW a c / (2621440000 : Nat)) : Int)))]
 []))
 (some
 (DV.tuple
 [DV.int IntKind.u64
 (IntKind.u64.wrap
 (IntKind.u64.wrap ((↑(uU a c / (2621440000 : Nat)) : Int) * (4294967296 : Int)) + (↑(uW a c / (2621440000 : Nat)) : Int))), DV.int IntKind.u64
 ((IntKind.u64.wrap
 (IntKind.u64.wrap (IntKind.u64.wrap ((↑(uW a c) : Int) * (4294967296 : Int)) + (0 : Int)) -
 IntKind.u64.wrap ((↑(uW a c / (2621440000 : Nat)) : Int) * (11258999068426240000 : Int)))).fdiv
 ((2 : Int) ^ min (50 : Nat) IntKind.u64.bits))]))))) :=
  (show FK tab spL (lspD a c) 20 (n+8) 32 [.int .u64 a, .int .u64 c, .int .u64 10000] =
 (cond (decide ((10000 : Int) ≤ (↑a : Int)))
 none
 (cond ((↑a : Int) == (0 : Int))
 (some (.tuple [(.int .u64 (IntKind.u64.wrap ((↑c : Int).tdiv (10000 : Int)))), (.int .u64 ((↑c : Int).tmod (10000 : Int)))]))
 (need (FSpec.D (lenS) [(.int .u64 ((10000 : Int)))])
 (need (LoopOk (LB tab spL (lspD a c) ((20 : Nat)) (n + (8 : Nat)) h320 c32l0) (St.of [(2, (.d (.int .u64 (IntKind.u64.wrap ((10000 : Int) * (2 : Int) ^ min (IntKind.u64.wrap (IntKind.i64.wrap (50 : Int))).toNat IntKind.u64.bits))))), (8, (.d (.int .u64 (IntKind.u64.wrap (IntKind.i64.wrap (50 : Int)))))), (9, (.d (.int .u64 ((IntKind.u64.wrap ((10000 : Int) * (2 : Int) ^ min (IntKind.u64.wrap (IntKind.i64.wrap (50 : Int))).toNat IntKind.u64.bits)).fdiv ((2 : Int) ^ min (32 : Nat) IntKind.u64.bits))))), (10, (.d (.int .u64 (IntKind.u64.wrap (↑(BitVec.ofInt IntKind.u64.bits (IntKind.u64.wrap ((10000 : Int) * (2 : Int) ^ min (IntKind.u64.wrap (IntKind.i64.wrap (50 : Int))).toNat IntKind.u64.bits)) &&& BitVec.ofInt IntKind.u64.bits (4294967295 : Int)).toNat : Int))))), (11, (.d (.int .u64 (IntKind.u64.wrap (↑(BitVec.ofInt IntKind.u64.bits (IntKind.u64.wrap ((↑a : Int) * (2 : Int) ^ min (IntKind.u64.wrap (IntKind.i64.wrap (50 : Int))).toNat IntKind.u64.bits)) ||| BitVec.ofInt IntKind.u64.bits ((↑c : Int).fdiv ((2 : Int) ^ min (IntKind.u64.wrap ((64 : Int) - IntKind.u64.wrap (IntKind.i64.wrap (50 : Int)))).toNat IntKind.u64.bits))).toNat : Int))))), (13, (.d (.int .u64 ((IntKind.u64.wrap ((↑c : Int) * (2 : Int) ^ min (IntKind.u64.wrap (IntKind.i64.wrap (50 : Int))).toNat IntKind.u64.bits)).fdiv ((2 : Int) ^ min (32 : Nat) IntKind.u64.bits))))), (14, (.d (.int .u64 (IntKind.u64.wrap (↑(BitVec.ofInt IntKind.u64.bits (IntKind.u64.wrap ((↑c : Int) * (2 : Int) ^ min (IntKind.u64.wrap (IntKind.i64.wrap (50 : Int))).toNat IntKind.u64.bits)) &&& BitVec.ofInt IntKind.u64.bits (4294967295 : Int)).toNat : Int))))), (15, (.d (.int .u64 (IntKind.u64.wrap ((IntKind.u64.wrap (↑(BitVec.ofInt IntKind.u64.bits (IntKind.u64.wrap ((↑a : Int) * (2 : Int) ^ min (IntKind.u64.wrap (IntKind.i64.wrap (50 : Int))).toNat IntKind.u64.bits)) ||| BitVec.ofInt IntKind.u64.bits ((↑c : Int).fdiv ((2 : Int) ^ min (IntKind.u64.wrap ((64 : Int) - IntKind.u64.wrap (IntKind.i64.wrap (50 : Int)))).toNat IntKind.u64.bits))).toNat : Int)).tdiv ((IntKind.u64.wrap ((10000 : Int) * (2 : Int) ^ min (IntKind.u64.wrap (IntKind.i64.wrap (50 : Int))).toNat IntKind.u64.bits)).fdiv ((2 : Int) ^ min (32 : Nat) IntKind.u64.bits))))))), (16, (.d (.int .u64 (IntKind.u64.wrap (IntKind.u64.wrap (↑(BitVec.ofInt IntKind.u64.bits (IntKind.u64.wrap ((↑a : Int) * (2 : Int) ^ min (IntKind.u64.wrap (IntKind.i64.wrap (50 : Int))).toNat IntKind.u64.bits)) ||| BitVec.ofInt IntKind.u64.bits ((↑c : Int).fdiv ((2 : Int) ^ min (IntKind.u64.wrap ((64 : Int) - IntKind.u64.wrap (IntKind.i64.wrap (50 : Int)))).toNat IntKind.u64.bits))).toNat : Int) - IntKind.u64.wrap (IntKind.u64.wrap ((IntKind.u64.wrap (↑(BitVec.ofInt IntKind.u64.bits (IntKind.u64.wrap ((↑a : Int) * (2 : Int) ^ min (IntKind.u64.wrap (IntKind.i64.wrap (50 : Int))).toNat IntKind.u64.bits)) ||| BitVec.ofInt IntKind.u64.bits ((↑c : Int).fdiv ((2 : Int) ^ min (IntKind.u64.wrap ((64 : Int) - IntKind.u64.wrap (IntKind.i64.wrap (50 : Int)))).toNat IntKind.u64.bits))).toNat : Int)).tdiv ((IntKind.u64.wrap ((10000 : Int) * (2 : Int) ^ min (IntKind.u64.wrap (IntKind.i64.wrap (50 : Int))).toNat IntKind.u64.bits)).fdiv ((2 : Int) ^ min (32 : Nat) IntKind.u64.bits))) * (IntKind.u64.wrap ((10000 : Int) * (2 : Int) ^ min (IntKind.u64.wrap (IntKind.i64.wrap (50 : Int))).toNat IntKind.u64.bits)).fdiv ((2 : Int) ^ min (32 : Nat) IntKind.u64.bits)))))))] []) ((.ex 0), (St.of [(2, (.d (.int .u64 ((11258999068426240000 : Int))))), (8, (.d (.int .u64 ((50 : Int))))), (9, (.d (.int .u64 ((2621440000 : Int))))), (10, (.d (.int .u64 ((0 : Int))))), (11, (.d (.int .u64 ((↑(uU a c) : Int))))), (13, (.d (.int .u64 ((↑(uV c) : Int))))), (14, (.d (.int .u64 ((0 : Int))))), (15, (.d (.int .u64 ((↑(uU a c / (2621440000 : Nat)) : Int)))))] [])))
 (need (LoopOk (LB tab spL (lspD a c) ((20 : Nat)) (n + (8 : Nat)) h321 c32l1) (St.of [(2, (.d (.int .u64 ((11258999068426240000 : Int))))), (8, (.d (.int .u64 ((50 : Int))))), (9, (.d (.int .u64 ((2621440000 : Int))))), (10, (.d (.int .u64 ((0 : Int))))), (14, (.d (.int .u64 ((0 : Int))))), (15, (.d (.int .u64 ((↑(uU a c / (2621440000 : Nat)) : Int))))), (16, (.d (.int .u64 (IntKind.u64.wrap (IntKind.u64.wrap (IntKind.u64.wrap (IntKind.u64.wrap ((↑(uU a c) : Int) * (4294967296 : Int)) + (↑(uV c) : Int)) - IntKind.u64.wrap ((↑(uU a c / (2621440000 : Nat)) : Int) * (11258999068426240000 : Int))) - IntKind.u64.wrap (IntKind.u64.wrap ((IntKind.u64.wrap (IntKind.u64.wrap (IntKind.u64.wrap ((↑(uU a c) : Int) * (4294967296 : Int)) + (↑(uV c) : Int)) - IntKind.u64.wrap ((↑(uU a c / (2621440000 : Nat)) : Int) * (11258999068426240000 : Int)))).tdiv (2621440000 : Int)) * (2621440000 : Int))))))), (17, (.d (.int .u64 (IntKind.u64.wrap (IntKind.u64.wrap (IntKind.u64.wrap ((↑(uU a c) : Int) * (4294967296 : Int)) + (↑(uV c) : Int)) - IntKind.u64.wrap ((↑(uU a c / (2621440000 : Nat)) : Int) * (11258999068426240000 : Int))))))), (18, (.d (.int .u64 (IntKind.u64.wrap ((IntKind.u64.wrap (IntKind.u64.wrap (IntKind.u64.wrap ((↑(uU a c) : Int) * (4294967296 : Int)) + (↑(uV c) : Int)) - IntKind.u64.wrap ((↑(uU a c / (2621440000 : Nat)) : Int) * (11258999068426240000 : Int)))).tdiv (2621440000 : Int))))))] []) ((.ex 2), (St.of [(2, (.d (.int .u64 ((11258999068426240000 : Int))))), (8, (.d (.int .u64 ((50 : Int))))), (14, (.d (.int .u64 ((0 : Int))))), (15, (.d (.int .u64 ((↑(uU a c / (2621440000 : Nat)) : Int))))), (17, (.d (.int .u64 ((↑(uW a c) : Int))))), (18, (.d (.int .u64 ((↑(uW a c / (2621440000 : Nat)) : Int)))))] [])))
 (some (.tuple [(.int .u64 (IntKind.u64.wrap (IntKind.u64.wrap ((↑(uU a c / (2621440000 : Nat)) : Int) * (4294967296 : Int)) + (↑(uW a c / (2621440000 : Nat)) : Int)))), (.int .u64 ((IntKind.u64.wrap (IntKind.u64.wrap (IntKind.u64.wrap ((↑(uW a c) : Int) * (4294967296 : Int)) + (0 : Int)) - IntKind.u64.wrap ((↑(uW a c / (2621440000 : Nat)) : Int) * (11258999068426240000 : Int)))).fdiv ((2 : Int) ^ min (50 : Nat) IntKind.u64.bits)))]))))))) from by kernel_rfl).trans (by first | rfl | (simp only [decide_true, decide_false, eq_self, and_true, true_and, and_self, cond_true, cond_false, Nat.le_refl, Int.le_refl, Option.getD_some, Option.getD_none, Int.toNat_natCast, List.take_length, List.drop_zero, Nat.zero_add, List.nil_append, List.all_nil, List.append_nil, Bool.true_and, Bool.and_true, rowsA_sla, rowsA_sl, rowsA_nil, minus_zero, nat_le_cast, nat_nonneg, Option.isSome_some, Option.isSome_none, Bool.false_eq_true, false_and, and_false, if_true, if_false, implies_true, Int.toNat_zero, Bool.not_false, Bool.not_true, bne_self_eq_false]; done) | (simp only [decide_true, decide_false, eq_self, and_true, true_and, and_self, cond_true, cond_false, Nat.le_refl, Int.le_refl, Option.getD_some, Option.getD_none, Int.toNat_natCast, List.take_length, List.drop_zero, Nat.zero_add, List.nil_append, List.all_nil, List.append_nil, Bool.true_and, Bool.and_true, rowsA_sla, rowsA_sl, rowsA_nil, minus_zero, nat_le_cast, nat_nonneg, Option.isSome_some, Option.isSome_none, Bool.false_eq_true, false_and, and_false, if_true, if_false, implies_true, Int.toNat_zero, Bool.not_false, Bool.not_true, bne_self_eq_false]; rfl))
theorem s320 (L n : Nat) (a c : Nat) (y s p q u v z x r : Int) (k : Kont) : LB tab spL (lspD a c) L (n+4) h320 c32l0 (S320 y s p q u v z x r) k =
   (bif
 bif decide (x ≥ (4294967296 : Int)) then true
 else decide (IntKind.u64.wrap (x * q) > IntKind.u64.wrap (IntKind.u64.wrap ((4294967296 : Int) * r) + v)) then
 bif decide (IntKind.u64.wrap (r + p) ≥ (4294967296 : Int)) then
 k (Ex.ex (0 : Nat))
 (St.of
 [(2, AV.d (DV.int IntKind.u64 y)), (8, AV.d (DV.int IntKind.u64 s)), (9, AV.d (DV.int IntKind.u64 p)),
 ((10 : Nat), AV.d (DV.int IntKind.u64 q)), (11, AV.d (DV.int IntKind.u64 u)), (13, AV.d (DV.int IntKind.u64 v)),
 ((14 : Nat), AV.d (DV.int IntKind.u64 z)), (15, AV.d (DV.int IntKind.u64 (IntKind.u64.wrap (x - (1 : Int)))))]
 [])
 else
 k Ex.nrm
 (St.of
 [(2, AV.d (DV.int IntKind.u64 y)), (8, AV.d (DV.int IntKind.u64 s)), (9, AV.d (DV.int IntKind.u64 p)),
 ((10 : Nat), AV.d (DV.int IntKind.u64 q)), (11, AV.d (DV.int IntKind.u64 u)), (13, AV.d (DV.int IntKind.u64 v)),
 ((14 : Nat), AV.d (DV.int IntKind.u64 z)), (15, AV.d (DV.int IntKind.u64 (IntKind.u64.wrap (x - (1 : Int))))),
 ((16 : Nat), AV.d (DV.int IntKind.u64 (IntKind.u64.wrap (r + p))))]
 [])
 else
 k (Ex.ex (0 : Nat))
 (St.of
 [(2, AV.d (DV.int IntKind.u64 y)), (8, AV.d (DV.int IntKind.u64 s)), (9, AV.d (DV.int IntKind.u64 p)),
 ((10 : Nat), AV.d (DV.int IntKind.u64 q)), (11, AV.d (DV.int IntKind.u64 u)), (13, AV.d (DV.int IntKind.u64 v)),
 ((14 : Nat), AV.d (DV.int IntKind.u64 z)), (15, AV.d (DV.int IntKind.u64 x))]
 [])) :=
  (show LB tab spL (lspD a c) L (n+4) h320 c32l0 (S320 y s p q u v z x r) k =
 (cond (bif decide (x ≥ (4294967296 : Int)) then true else decide (IntKind.u64.wrap (x * q) > IntKind.u64.wrap (IntKind.u64.wrap ((4294967296 : Int) * r) + v)))
 (cond (decide (IntKind.u64.wrap (r + p) ≥ (4294967296 : Int)))
 (k (.ex 0) (St.of [(2, (.d (.int .u64 y))), (8, (.d (.int .u64 s))), (9, (.d (.int .u64 p))), (10, (.d (.int .u64 q))), (11, (.d (.int .u64 u))), (13, (.d (.int .u64 v))), (14, (.d (.int .u64 z))), (15, (.d (.int .u64 (IntKind.u64.wrap (x - (1 : Int))))))] []))
 (k .nrm (St.of [(2, (.d (.int .u64 y))), (8, (.d (.int .u64 s))), (9, (.d (.int .u64 p))), (10, (.d (.int .u64 q))), (11, (.d (.int .u64 u))), (13, (.d (.int .u64 v))), (14, (.d (.int .u64 z))), (15, (.d (.int .u64 (IntKind.u64.wrap (x - (1 : Int)))))), (16, (.d (.int .u64 (IntKind.u64.wrap (r + p)))))] [])))
 (k (.ex 0) (St.of [(2, (.d (.int .u64 y))), (8, (.d (.int .u64 s))), (9, (.d (.int .u64 p))), (10, (.d (.int .u64 q))), (11, (.d (.int .u64 u))), (13, (.d (.int .u64 v))), (14, (.d (.int .u64 z))), (15, (.d (.int .u64 x)))] []))) from by kernel_rfl).trans (by first | rfl | (simp only [decide_true, decide_false, eq_self, and_true, true_and, and_self, cond_true, cond_false, Nat.le_refl, Int.le_refl, Option.getD_some, Option.getD_none, Int.toNat_natCast, List.take_length, List.drop_zero, Nat.zero_add, List.nil_append, List.all_nil, List.append_nil, Bool.true_and, Bool.and_true, rowsA_sla, rowsA_sl, rowsA_nil, minus_zero, nat_le_cast, nat_nonneg, Option.isSome_some, Option.isSome_none, Bool.false_eq_true, false_and, and_false, if_true, if_false, implies_true, Int.toNat_zero, Bool.not_false, Bool.not_true, bne_self_eq_false]; done) | (simp only [decide_true, decide_false, eq_self, and_true, true_and, and_self, cond_true, cond_false, Nat.le_refl, Int.le_refl, Option.getD_some, Option.getD_none, Int.toNat_natCast, List.take_length, List.drop_zero, Nat.zero_add, List.nil_append, List.all_nil, List.append_nil, Bool.true_and, Bool.and_true, rowsA_sla, rowsA_sl, rowsA_nil, minus_zero, nat_le_cast, nat_nonneg, Option.isSome_some, Option.isSome_none, Bool.false_eq_true, false_and, and_false, if_true, if_false, implies_true, Int.toNat_zero, Bool.not_false, Bool.not_true, bne_self_eq_false]; rfl))
theorem s321 (L n : Nat) (a c : Nat) (y s p q u v z x r : Int) (k : Kont) : LB tab spL (lspD a c) L (n+4) h321 c32l1 (S321 y s p q z x r u v) k =
   (bif
 bif decide (v ≥ (4294967296 : Int)) then true
 else decide (IntKind.u64.wrap (v * q) > IntKind.u64.wrap (IntKind.u64.wrap ((4294967296 : Int) * r) + z)) then
 bif decide (IntKind.u64.wrap (r + p) ≥ (4294967296 : Int)) then
 k (Ex.ex (2 : Nat))
 (St.of
 [(2, AV.d (DV.int IntKind.u64 y)), (8, AV.d (DV.int IntKind.u64 s)), (14, AV.d (DV.int IntKind.u64 z)),
 ((15 : Nat), AV.d (DV.int IntKind.u64 x)), (17, AV.d (DV.int IntKind.u64 u)),
 ((18 : Nat), AV.d (DV.int IntKind.u64 (IntKind.u64.wrap (v - (1 : Int)))))]
 [])
 else
 k Ex.nrm
 (St.of
 [(2, AV.d (DV.int IntKind.u64 y)), (8, AV.d (DV.int IntKind.u64 s)), (9, AV.d (DV.int IntKind.u64 p)),
 ((10 : Nat), AV.d (DV.int IntKind.u64 q)), (14, AV.d (DV.int IntKind.u64 z)), (15, AV.d (DV.int IntKind.u64 x)),
 ((16 : Nat), AV.d (DV.int IntKind.u64 (IntKind.u64.wrap (r + p)))), (17, AV.d (DV.int IntKind.u64 u)),
 ((18 : Nat), AV.d (DV.int IntKind.u64 (IntKind.u64.wrap (v - (1 : Int)))))]
 [])
 else
 k (Ex.ex (2 : Nat))
 (St.of
 [(2, AV.d (DV.int IntKind.u64 y)), (8, AV.d (DV.int IntKind.u64 s)), (14, AV.d (DV.int IntKind.u64 z)),
 ((15 : Nat), AV.d (DV.int IntKind.u64 x)), (17, AV.d (DV.int IntKind.u64 u)), (18, AV.d (DV.int IntKind.u64 v))]
 [])) :=
  (show LB tab spL (lspD a c) L (n+4) h321 c32l1 (S321 y s p q z x r u v) k =
 (cond (bif decide (v ≥ (4294967296 : Int)) then true else decide (IntKind.u64.wrap (v * q) > IntKind.u64.wrap (IntKind.u64.wrap ((4294967296 : Int) * r) + z)))
 (cond (decide (IntKind.u64.wrap (r + p) ≥ (4294967296 : Int)))
 (k (.ex 2) (St.of [(2, (.d (.int .u64 y))), (8, (.d (.int .u64 s))), (14, (.d (.int .u64 z))), (15, (.d (.int .u64 x))), (17, (.d (.int .u64 u))), (18, (.d (.int .u64 (IntKind.u64.wrap (v - (1 : Int))))))] []))
 (k .nrm (St.of [(2, (.d (.int .u64 y))), (8, (.d (.int .u64 s))), (9, (.d (.int .u64 p))), (10, (.d (.int .u64 q))), (14, (.d (.int .u64 z))), (15, (.d (.int .u64 x))), (16, (.d (.int .u64 (IntKind.u64.wrap (r + p))))), (17, (.d (.int .u64 u))), (18, (.d (.int .u64 (IntKind.u64.wrap (v - (1 : Int))))))] [])))
 (k (.ex 2) (St.of [(2, (.d (.int .u64 y))), (8, (.d (.int .u64 s))), (14, (.d (.int .u64 z))), (15, (.d (.int .u64 x))), (17, (.d (.int .u64 u))), (18, (.d (.int .u64 v)))] []))) from by kernel_rfl).trans (by first | rfl | (simp only [decide_true, decide_false, eq_self, and_true, true_and, and_self, cond_true, cond_false, Nat.le_refl, Int.le_refl, Option.getD_some, Option.getD_none, Int.toNat_natCast, List.take_length, List.drop_zero, Nat.zero_add, List.nil_append, List.all_nil, List.append_nil, Bool.true_and, Bool.and_true, rowsA_sla, rowsA_sl, rowsA_nil, minus_zero, nat_le_cast, nat_nonneg, Option.isSome_some, Option.isSome_none, Bool.false_eq_true, false_and, and_false, if_true, if_false, implies_true, Int.toNat_zero, Bool.not_false, Bool.not_true, bne_self_eq_false]; done) | (simp only [decide_true, decide_false, eq_self, and_true, true_and, and_self, cond_true, cond_false, Nat.le_refl, Int.le_refl, Option.getD_some, Option.getD_none, Int.toNat_natCast, List.take_length, List.drop_zero, Nat.zero_add, List.nil_append, List.all_nil, List.append_nil, Bool.true_and, Bool.and_true, rowsA_sla, rowsA_sl, rowsA_nil, minus_zero, nat_le_cast, nat_nonneg, Option.isSome_some, Option.isSome_none, Bool.false_eq_true, false_and, and_false, if_true, if_false, implies_true, Int.toNat_zero, Bool.not_false, Bool.not_true, bne_self_eq_false]; rfl))
theorem wrapZ (n : Int) : IntKind.u64.wrap n = n % 18446744073709551616 := by simp [IntKind.wrap, IntKind.bits, IntKind.signed]
theorem mods (x v y : Int) : ((x % 18446744073709551616 + v) % 18446744073709551616 - y % 18446744073709551616) % 18446744073709551616 = (x + v - y) % 18446744073709551616 := by
  rw [Int.emod_add_emod, ← Int.sub_emod]
theorem wide0 (a c : Nat) : uU a c * 4294967296 + uV c = (a * 18446744073709551616 + c) * 262144 := by
  unfold uU uV
  omega
theorem wide1 (a c : Nat) : uU a c * 4294967296 + uV c = uU a c / 2621440000 * 11258999068426240000 + uW a c := by
  unfold uW
  generalize uU a c = U
  omega
theorem wide2 {N Q W : Nat} (h : N * 262144 = Q * 11258999068426240000 + W) : N / 10000 = Q * 4294967296 + W / 2621440000 ∧ N % 10000 = W % 2621440000 / 262144 := by
  omega
theorem wide3 (W : Nat) : ((W : Nat) : Int) * 4294967296 + 0 - ((W / 2621440000 : Nat) : Int) * 11258999068426240000 = ((W % 2621440000 * 4294967296 : Nat) : Int) := by
  omega
theorem wrap_nn (n : Int) : ¬ (0 : Int) > IntKind.u64.wrap n := by
  rw [show ∀ n : Int, IntKind.u64.wrap n = n % 18446744073709551616 from fun n => by simp [IntKind.wrap, IntKind.bits, IntKind.signed]]
  omega
theorem uU_lt {a c : Nat} (ha : a < 10000) (hc : c < 18446744073709551616) : uU a c < 11258999068426240000 := by unfold uU; omega
theorem uV_lt (c : Nat) : uV c < 4294967296 := by unfold uV; omega
theorem uW_lt (a c : Nat) : uW a c < 11258999068426240000 := by have := uV_lt c; unfold uW; omega
theorem loop320 (L n : Nat) (a c : Nat) (ha : a < 10000) (hc : c < 18446744073709551616) {y s p q u v z x r : Int} (hy : y = 11258999068426240000) (hs : s = 50) (hp : p = 2621440000) (hq : q = 0) (hu : u = (uU a c : Nat)) (hv : v = (uV c : Nat)) (hz : z = 0) (hx : x = (uU a c / 2621440000 : Nat)) :
    LoopOk (LB tab spL (lspD a c) L (n+4) h320 c32l0) (S320 y s p q u v z x r) (.ex 0, X320 a c) := by
  have h := uU_lt ha hc
  subst hy hs hp hq hu hv hz hx
  refine loop_one (by simp) fun k => ?_
  rw [s320, decide_eq_false (show ¬ ((uU a c / 2621440000 : Nat) : Int) ≥ 4294967296 by omega), cond_false, Int.mul_zero, show IntKind.u64.wrap 0 = 0 from by decide, decide_eq_false (wrap_nn _), cond_false]
  rfl
theorem loop321 (L n : Nat) (a c : Nat) (ha : a < 10000) (hc : c < 18446744073709551616) {y s p q z x r u v : Int} (hy : y = 11258999068426240000) (hs : s = 50) (hq : q = 0) (hz : z = 0) (hx : x = (uU a c / 2621440000 : Nat)) (hu : u = (uW a c : Nat)) (hv : v = (uW a c / 2621440000 : Nat)) :
    LoopOk (LB tab spL (lspD a c) L (n+4) h321 c32l1) (S321 y s p q z x r u v) (.ex 2, X321 a c) := by
  have h := uW_lt a c
  subst hy hs hq hz hx hu hv
  refine loop_one (by simp) fun k => ?_
  rw [s321, decide_eq_false (show ¬ ((uW a c / 2621440000 : Nat) : Int) ≥ 4294967296 by omega), cond_false, Int.mul_zero, show IntKind.u64.wrap 0 = 0 from by decide, decide_eq_false (wrap_nn _), cond_false]
  rfl
theorem len40 : lenS.ok Try.prog 40 := by
  intro ds r hD hv
  cases hD
  simp only [lenS, Option.some.injEq] at hv
  subst hv
  intro w vs S0 o hl hS
  simp only [ArgsAt, RdL, RdD] at hl
  obtain ⟨hl, rfl⟩ := hl
  obtain ⟨u, us, rfl, rfl, rfl⟩ := hl
  refine .inl ⟨⟨Try.f40, by kernel_rfl, by kernel_rfl, by kernel_rfl⟩, (Try.bits_Len64 10000 w (by omega) (by omega)).mono ?_⟩
  rintro e w' ⟨rfl, rfl⟩
  refine ⟨_, rfl, S0, BelowP.refl _ _, fun _ _ h => h, fun _ _ h => .inl h, hS, ?_⟩
  simp only [Res, RdD]
  rw [show Lib.bitLen (Int.toNat 10000) = 14 from by decide]
  rfl
theorem spL_ok : ∀ f s, spL f = some s → s.ok Try.prog f := spAdd_ok len40 noSp_ok
theorem orU (a c : Nat) (ha : a < 10000) (hc : c < 18446744073709551616) : IntKind.u64.wrap (((BitVec.ofInt IntKind.u64.bits ((a * 1125899906842624 : Nat) : Int) ||| BitVec.ofInt IntKind.u64.bits ((c / 16384 : Nat) : Int)).toNat : Nat) : Int) = ((uU a c : Nat) : Int) := by
  have h1 : (BitVec.ofInt 64 ((a * 1125899906842624 : Nat) : Int) ||| BitVec.ofInt 64 ((c / 16384 : Nat) : Int)).toNat = uU a c := by
    rw [BitVec.toNat_or, BitVec.toNat_ofInt, BitVec.toNat_ofInt]
    have e1 : (((a * 1125899906842624 : Nat) : Int) % ((2 ^ 64 : Nat) : Int)).toNat = 2 ^ 50 * a := by omega
    have e2 : (((c / 16384 : Nat) : Int) % ((2 ^ 64 : Nat) : Int)).toNat = c / 16384 := by omega
    rw [e1, e2, ← Nat.two_pow_add_eq_or_of_lt (by omega)]
    unfold uU
    omega
  rw [show (IntKind.u64.bits : Nat) = 64 from rfl, h1]
  exact wN _ (by have := uU_lt ha hc; omega)
def divT : FSpec where
  D ds := ∃ a c : Nat, ds = [.int .u64 a, .int .u64 c, .int .u64 10000] ∧ a < 10000 ∧ c < 18446744073709551616
  val ds := match ds with | [.int _ a, .int _ c, .int _ _] => some (.tuple [.int .u64 ((a * 18446744073709551616 + c) / 10000), .int .u64 ((a * 18446744073709551616 + c) % 10000)]) | _ => none
theorem divT32 : divT.ok Try.prog 32 := fun ds r hD => by
  have hD' := hD
  obtain ⟨a, c, rfl, ha, hc⟩ := hD'
  refine fspec_ok (s := ⟨fun ds => ds = [.int .u64 a, .int .u64 c, .int .u64 10000], divT.val⟩) (lsp := lspD a c) tab_ok spL_ok (fun ds hd => ?_) _ _ rfl
  cases hd
  refine ⟨20, 0 + 8, (t32g 0 0 a c).trans ?_⟩
  have eA : IntKind.u64.wrap ((a : Int) * (2 : Int) ^ min (IntKind.u64.wrap (IntKind.i64.wrap (50 : Int))).toNat IntKind.u64.bits) = ((a * 1125899906842624 : Nat) : Int) := by
    rw [show (2 : Int) ^ min (IntKind.u64.wrap (IntKind.i64.wrap (50 : Int))).toNat IntKind.u64.bits = ((1125899906842624 : Nat) : Int) from by decide, mulN, wN _ (by omega)]
  have eC : (c : Int).fdiv ((2 : Int) ^ min (IntKind.u64.wrap ((64 : Int) - IntKind.u64.wrap (IntKind.i64.wrap (50 : Int)))).toNat IntKind.u64.bits) = ((c / 16384 : Nat) : Int) := by
    rw [show (2 : Int) ^ min (IntKind.u64.wrap ((64 : Int) - IntKind.u64.wrap (IntKind.i64.wrap (50 : Int)))).toNat IntKind.u64.bits = 16384 from by decide, Int.fdiv_eq_ediv_of_nonneg _ (by omega)]
    rfl
  have eL : IntKind.u64.wrap ((c : Int) * (2 : Int) ^ min (IntKind.u64.wrap (IntKind.i64.wrap (50 : Int))).toNat IntKind.u64.bits) = ((c * 1125899906842624 % 18446744073709551616 : Nat) : Int) := by
    rw [show (2 : Int) ^ min (IntKind.u64.wrap (IntKind.i64.wrap (50 : Int))).toNat IntKind.u64.bits = ((1125899906842624 : Nat) : Int) from by decide, mulN, wU]
  have eP : (IntKind.u64.wrap ((10000 : Int) * (2 : Int) ^ min (IntKind.u64.wrap (IntKind.i64.wrap (50 : Int))).toNat IntKind.u64.bits)).fdiv ((2 : Int) ^ min (32 : Nat) IntKind.u64.bits) = 2621440000 := by decide
  have eY : IntKind.u64.wrap ((10000 : Int) * (2 : Int) ^ min (IntKind.u64.wrap (IntKind.i64.wrap (50 : Int))).toNat IntKind.u64.bits) = 11258999068426240000 := by decide
  have hU := uU_lt ha hc
  have hV := uV_lt c
  have hW := uW_lt a c
  rw [decide_eq_false (show ¬ (10000 : Int) ≤ (a : Int) by omega), cond_false]
  refine cond_of (fun h0 => ?_) (fun h0 => ?_)
  · have h0' : a = 0 := by simpa using h0
    subst h0'
    have hle : c / 10000 < 18446744073709551616 := by omega
    rw [show (c : Int).tdiv 10000 = ((c / 10000 : Nat) : Int) from rfl, show (c : Int).tmod 10000 = ((c % 10000 : Nat) : Int) from rfl, wN _ hle]
    simp only [divT]
    rw [show ((0 : Nat) : Int) * 18446744073709551616 + (c : Int) = (c : Int) by omega]
    rfl
  refine (need_pos rfl).trans ?_
  have eU := orU a c ha hc
  rw [← eA, ← eC] at eU
  refine (need_pos (loop320 20 (0 + 4) a c ha hc eY (by decide) eP (by decide) eU ?_ ?_ ?_)).trans ?_
  · rw [eL, shrU2]
    unfold uV
    omega
  · rw [eL, maskU, show c * 1125899906842624 % 18446744073709551616 % 4294967296 = 0 by omega]
    decide
  · rw [eU, eP, show ((uU a c : Nat) : Int).tdiv 2621440000 = ((uU a c / 2621440000 : Nat) : Int) from rfl, wN _ (by omega)]
  have hW1 : uU a c * 4294967296 + uV c = uU a c / 2621440000 * 11258999068426240000 + uW a c := wide1 _ _
  have hA : uU a c * 4294967296 + uV c = (a * 18446744073709551616 + c) * 262144 := wide0 a c
  have hK := wide2 (N := a * 18446744073709551616 + c) (hA.symm.trans hW1)
  have hQ : uU a c / 2621440000 < 4294967296 := by omega
  have hQ0 : uW a c / 2621440000 < 4294967296 := by omega
  have hu : IntKind.u64.wrap (IntKind.u64.wrap (IntKind.u64.wrap (((uU a c : Nat) : Int) * 4294967296) + ((uV c : Nat) : Int)) - IntKind.u64.wrap (((uU a c / 2621440000 : Nat) : Int) * 11258999068426240000)) = ((uW a c : Nat) : Int) := by
    simp only [wrapZ]
    rw [mods, show ((uU a c : Nat) : Int) * 4294967296 + ((uV c : Nat) : Int) - ((uU a c / 2621440000 : Nat) : Int) * 11258999068426240000 = ((uW a c : Nat) : Int) by omega]
    exact Int.emod_eq_of_lt (by omega) (by omega)
  have hq0 : ((uW a c : Nat) : Int).tdiv 2621440000 = ((uW a c / 2621440000 : Nat) : Int) := rfl
  refine (need_pos (loop321 20 (0 + 4) a c ha hc rfl rfl rfl rfl rfl hu ?_)).trans ?_
  · rw [hu, hq0, wN _ (by omega)]
  have e1 : IntKind.u64.wrap (IntKind.u64.wrap (((uU a c / 2621440000 : Nat) : Int) * 4294967296) + ((uW a c / 2621440000 : Nat) : Int)) = ((a * 18446744073709551616 + c : Nat) : Int) / 10000 := by
    rw [show ((uU a c / 2621440000 : Nat) : Int) * 4294967296 = ((uU a c / 2621440000 * 4294967296 : Nat) : Int) from rfl, wN _ (by omega), addN, wN _ (by omega), ← hK.1]
    rfl
  have e2 : (IntKind.u64.wrap (IntKind.u64.wrap (IntKind.u64.wrap (((uW a c : Nat) : Int) * 4294967296) + 0) - IntKind.u64.wrap (((uW a c / 2621440000 : Nat) : Int) * 11258999068426240000))).fdiv ((2 : Int) ^ min (50 : Nat) IntKind.u64.bits) = ((a * 18446744073709551616 + c : Nat) : Int) % 10000 := by
    rw [show (2 : Int) ^ min (50 : Nat) IntKind.u64.bits = 1125899906842624 from by decide]
    simp only [wrapZ]
    have h3 : ((uW a c : Nat) : Int) * 4294967296 + 0 - ((uW a c / 2621440000 : Nat) : Int) * 11258999068426240000 = ((uW a c % 2621440000 * 4294967296 : Nat) : Int) := wide3 _
    rw [mods, h3, Int.emod_eq_of_lt (by omega) (by have : uW a c % 2621440000 < 2621440000 := Nat.mod_lt _ (by omega); omega), Int.fdiv_eq_ediv_of_nonneg _ (by omega)]
    have h4 : uW a c % 2621440000 * 4294967296 / 1125899906842624 = uW a c % 2621440000 / 262144 := by omega
    rw [show (((uW a c % 2621440000 * 4294967296 : Nat) : Int)) / 1125899906842624 = ((uW a c % 2621440000 * 4294967296 / 1125899906842624 : Nat) : Int) from rfl, h4, ← hK.2]
    rfl
  simp only [divT]
  rw [e1, e2]
  rfl
end Go.Proofs.Ytianifckopijjaa
