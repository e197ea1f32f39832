/- What is known of the reference's product, by its runs. No condition. -/
import Derived.Test.YtianifckopijjaaSf
namespace Go.Proofs.Ytianifckopijjaa
open Go Go.Proofs Go.RowKit Vm
set_option linter.unusedVariables false
set_option linter.unusedSimpArgs false
def dig9 (V : Nat) : List (List DV) := [[.int .i64 (V % 65536 : Nat)], [.int .i64 (V / 65536 % 65536 : Nat)], [.int .i64 (V / 65536 / 65536 % 65536 : Nat)], [.int .i64 (V / 65536 / 65536 / 65536 % 65536 : Nat)], [.int .i64 (V / 65536 / 65536 / 65536 / 65536 % 65536 : Nat)],
  [.int .i64 (V / 65536 / 65536 / 65536 / 65536 / 65536 % 65536 : Nat)], [.int .i64 (V / 65536 / 65536 / 65536 / 65536 / 65536 / 65536 % 65536 : Nat)], [.int .i64 (V / 65536 / 65536 / 65536 / 65536 / 65536 / 65536 / 65536 % 65536 : Nat)],
  [.int .i64 (V / 65536 / 65536 / 65536 / 65536 / 65536 / 65536 / 65536 / 65536 : Nat)]]
def rows9 (a b c d e f g h i : Int) : List (List DV) := [[.int .i64 a], [.int .i64 b], [.int .i64 c], [.int .i64 d], [.int .i64 e], [.int .i64 f], [.int .i64 g], [.int .i64 h], [.int .i64 i]]
def val9 (a b c d e f g h i : Nat) : Nat := a + 65536 * (b + 65536 * (c + 65536 * (d + 65536 * (e + 65536 * (f + 65536 * (g + 65536 * (h + 65536 * i)))))))
/-- carrying of some digits that come to V -/
def carS (a b c d e f g h i V : Nat) : FSpec where
  D ds := ds = [.mv 2 1 (rows9 a b c d e f g h i)]
  val ds := some (.sl (.own 2) 1 (dig9 V))
def prodS (a b : Nat) : FSpec where
  D ds := ds = [.int .i64 a, .int .i64 b]
  val ds := some (.sl (.own 2) 1 (dig9 (a * b)))
def timS (p n : Nat) : FSpec where
  D ds := ds = [.mv 2 1 (dig9 p), .int .i64 n]
  val ds := some (.sl (.own 2) 1 (dig9 (p * n)))
def byS (p : Nat) : FSpec where
  D ds := ds = [.mv 2 1 (dig9 p), .int .i64 10000]
  val ds := some (.tuple [.int .i64 (cond (decide (p / 10000 < 9223372036854775808)) (p / 10000 : Nat) 0), .bool (decide (p / 10000 < 9223372036854775808))])
def vals : DV → List Int
  | .mv _ _ es => es.map fun e => (cellA e 0).toI
  | _ => []
theorem t39 (L n : Nat) (a b c d e f g h i : Int) : FK tab noSp lsp0 20 (n+8) 39 [.mv 2 1 (rows9 a b c d e f g h i)] =
   (some
 (DV.sl (SK.own (2 : TypeId)) (1 : Nat)
 [[DV.int .i64 (IntKind.i64.wrap (↑(BitVec.ofInt IntKind.i64.bits a &&& BitVec.ofInt IntKind.i64.bits (65535 : Int)).toNat : Int))],
 [DV.int .i64
 (IntKind.i64.wrap
 (↑(BitVec.ofInt IntKind.i64.bits (IntKind.i64.wrap (b + a.fdiv ((2 : Int) ^ min (16 : Nat) IntKind.i64.bits))) &&&
 BitVec.ofInt IntKind.i64.bits (65535 : Int)).toNat :
 Int))],
 [DV.int .i64
 (IntKind.i64.wrap
 (↑(BitVec.ofInt IntKind.i64.bits
 (IntKind.i64.wrap
 (c +
 (IntKind.i64.wrap (b + a.fdiv ((2 : Int) ^ min (16 : Nat) IntKind.i64.bits))).fdiv
 ((2 : Int) ^ min (16 : Nat) IntKind.i64.bits))) &&&
 BitVec.ofInt IntKind.i64.bits (65535 : Int)).toNat :
 Int))],
 [DV.int .i64
 (IntKind.i64.wrap
 (↑(BitVec.ofInt IntKind.i64.bits
 (IntKind.i64.wrap
 (d +
 (IntKind.i64.wrap
 (c +
 (IntKind.i64.wrap (b + a.fdiv ((2 : Int) ^ min (16 : Nat) IntKind.i64.bits))).fdiv
 ((2 : Int) ^ min (16 : Nat) IntKind.i64.bits))).fdiv
 ((2 : Int) ^ min (16 : Nat) IntKind.i64.bits))) &&&
 BitVec.ofInt IntKind.i64.bits (65535 : Int)).toNat :
 Int))],
 [DV.int .i64
 (IntKind.i64.wrap
 (↑(BitVec.ofInt IntKind.i64.bits
 (IntKind.i64.wrap
 (e +
 (IntKind.i64.wrap
 (d +
 (IntKind.i64.wrap
 (c +
 (IntKind.i64.wrap (b + a.fdiv ((2 : Int) ^ min (16 : Nat) IntKind.i64.bits))).fdiv
 ((2 : Int) ^ min (16 : Nat) IntKind.i64.bits))).fdiv
 ((2 : Int) ^ min (16 : Nat) IntKind.i64.bits))).fdiv
 ((2 : Int) ^ min (16 : Nat) IntKind.i64.bits))) &&&
 BitVec.ofInt IntKind.i64.bits (65535 : Int)).toNat :
 Int))],
 [DV.int .i64
 (IntKind.i64.wrap
 (↑(BitVec.ofInt IntKind.i64.bits
 (IntKind.i64.wrap
 (f +
 (IntKind.i64.wrap
 (e +
 (IntKind.i64.wrap
 (d +
 (IntKind.i64.wrap
 (c +
 (IntKind.i64.wrap (b + a.fdiv ((2 : Int) ^ min (16 : Nat) IntKind.i64.bits))).fdiv
 ((2 : Int) ^ min (16 : Nat) IntKind.i64.bits))).fdiv
 ((2 : Int) ^ min (16 : Nat) IntKind.i64.bits))).fdiv
 ((2 : Int) ^ min (16 : Nat) IntKind.i64.bits))).fdiv
 ((2 : Int) ^ min (16 : Nat) IntKind.i64.bits))) &&&
 BitVec.ofInt IntKind.i64.bits (65535 : Int)).toNat :
 Int))],
 [DV.int .i64
 (IntKind.i64.wrap
 (↑(BitVec.ofInt IntKind.i64.bits
 (IntKind.i64.wrap
 (g +
 (IntKind.i64.wrap
 (f +
 (IntKind.i64.wrap
 (e +
 (IntKind.i64.wrap
 (d +
 (IntKind.i64.wrap
 (c +
 (IntKind.i64.wrap (b + a.fdiv ((2 : Int) ^ min (16 : Nat) IntKind.i64.bits))).fdiv
 ((2 : Int) ^ min (16 : Nat) IntKind.i64.bits))).fdiv
 ((2 : Int) ^ min (16 : Nat) IntKind.i64.bits))).fdiv
 ((2 : Int) ^ min (16 : Nat) IntKind.i64.bits))).fdiv
 ((2 : Int) ^ min (16 : Nat) IntKind.i64.bits))).fdiv
 ((2 : Int) ^ min (16 : Nat) IntKind.i64.bits))) &&&
 BitVec.ofInt IntKind.i64.bits (65535 : Int)).toNat :
 Int))],
 [DV.int .i64
 (IntKind.i64.wrap
 (↑(BitVec.ofInt IntKind.i64.bits
 (IntKind.i64.wrap
 (h +
 (IntKind.i64.wrap
 (g +
 (IntKind.i64.wrap
 (f +
 (IntKind.i64.wrap
 (e +
 (IntKind.i64.wrap
 (d +
 (IntKind.i64.wrap
 (c +
 (IntKind.i64.wrap (b + a.fdiv ((2 : Int) ^ min (16 : Nat) IntKind.i64.bits))).fdiv
 ((2 : Int) ^ min (16 : Nat) IntKind.i64.bits))).fdiv
 ((2 : Int) ^ min (16 : Nat) IntKind.i64.bits))).fdiv
 ((2 : Int) ^ min (16 : Nat) IntKind.i64.bits))).fdiv
 ((2 : Int) ^ min (16 : Nat) IntKind.i64.bits))).fdiv
 ((2 : Int) ^ min (16 : Nat) IntKind.i64.bits))).fdiv
 ((2 : Int) ^ min (16 : Nat) IntKind.i64.bits))) &&&
 BitVec.ofInt IntKind.i64.bits (65535 : Int)).toNat :
 Int))],
 [DV.int .i64
 (IntKind.i64.wrap
 (i +
 (IntKind.i64.wrap
 (h +
 (IntKind.i64.wrap
 (g +
 (IntKind.i64.wrap
 (f +
 (IntKind.i64.wrap
 (e +
 (IntKind.i64.wrap
 (d +
 (IntKind.i64.wrap
 (c +
 (IntKind.i64.wrap (b + a.fdiv ((2 : Int) ^ min (16 : Nat) IntKind.i64.bits))).fdiv
 ((2 : Int) ^ min (16 : Nat) IntKind.i64.bits))).fdiv
 ((2 : Int) ^ min (16 : Nat) IntKind.i64.bits))).fdiv
 ((2 : Int) ^ min (16 : Nat) IntKind.i64.bits))).fdiv
 ((2 : Int) ^ min (16 : Nat) IntKind.i64.bits))).fdiv
 ((2 : Int) ^ min (16 : Nat) IntKind.i64.bits))).fdiv
 ((2 : Int) ^ min (16 : Nat) IntKind.i64.bits))).fdiv
 ((2 : Int) ^ min (16 : Nat) IntKind.i64.bits)))]])) :=
  (show FK tab noSp lsp0 20 (n+8) 39 [.mv 2 1 (rows9 a b c d e f g h i)] =
 (some (.sl (SK.own (2 : TypeId)) 1 [[(.int .i64 (IntKind.i64.wrap (↑(BitVec.ofInt IntKind.i64.bits a &&& BitVec.ofInt IntKind.i64.bits (65535 : Int)).toNat : Int)))], [(.int .i64 (IntKind.i64.wrap (↑(BitVec.ofInt IntKind.i64.bits (IntKind.i64.wrap (b + a.fdiv ((2 : Int) ^ min (16 : Nat) IntKind.i64.bits))) &&& BitVec.ofInt IntKind.i64.bits (65535 : Int)).toNat : Int)))], [(.int .i64 (IntKind.i64.wrap (↑(BitVec.ofInt IntKind.i64.bits (IntKind.i64.wrap (c + (IntKind.i64.wrap (b + a.fdiv ((2 : Int) ^ min (16 : Nat) IntKind.i64.bits))).fdiv ((2 : Int) ^ min (16 : Nat) IntKind.i64.bits))) &&& BitVec.ofInt IntKind.i64.bits (65535 : Int)).toNat : Int)))], [(.int .i64 (IntKind.i64.wrap (↑(BitVec.ofInt IntKind.i64.bits (IntKind.i64.wrap (d + (IntKind.i64.wrap (c + (IntKind.i64.wrap (b + a.fdiv ((2 : Int) ^ min (16 : Nat) IntKind.i64.bits))).fdiv ((2 : Int) ^ min (16 : Nat) IntKind.i64.bits))).fdiv ((2 : Int) ^ min (16 : Nat) IntKind.i64.bits))) &&& BitVec.ofInt IntKind.i64.bits (65535 : Int)).toNat : Int)))], [(.int .i64 (IntKind.i64.wrap (↑(BitVec.ofInt IntKind.i64.bits (IntKind.i64.wrap (e + (IntKind.i64.wrap (d + (IntKind.i64.wrap (c + (IntKind.i64.wrap (b + a.fdiv ((2 : Int) ^ min (16 : Nat) IntKind.i64.bits))).fdiv ((2 : Int) ^ min (16 : Nat) IntKind.i64.bits))).fdiv ((2 : Int) ^ min (16 : Nat) IntKind.i64.bits))).fdiv ((2 : Int) ^ min (16 : Nat) IntKind.i64.bits))) &&& BitVec.ofInt IntKind.i64.bits (65535 : Int)).toNat : Int)))], [(.int .i64 (IntKind.i64.wrap (↑(BitVec.ofInt IntKind.i64.bits (IntKind.i64.wrap (f + (IntKind.i64.wrap (e + (IntKind.i64.wrap (d + (IntKind.i64.wrap (c + (IntKind.i64.wrap (b + a.fdiv ((2 : Int) ^ min (16 : Nat) IntKind.i64.bits))).fdiv ((2 : Int) ^ min (16 : Nat) IntKind.i64.bits))).fdiv ((2 : Int) ^ min (16 : Nat) IntKind.i64.bits))).fdiv ((2 : Int) ^ min (16 : Nat) IntKind.i64.bits))).fdiv ((2 : Int) ^ min (16 : Nat) IntKind.i64.bits))) &&& BitVec.ofInt IntKind.i64.bits (65535 : Int)).toNat : Int)))], [(.int .i64 (IntKind.i64.wrap (↑(BitVec.ofInt IntKind.i64.bits (IntKind.i64.wrap (g + (IntKind.i64.wrap (f + (IntKind.i64.wrap (e + (IntKind.i64.wrap (d + (IntKind.i64.wrap (c + (IntKind.i64.wrap (b + a.fdiv ((2 : Int) ^ min (16 : Nat) IntKind.i64.bits))).fdiv ((2 : Int) ^ min (16 : Nat) IntKind.i64.bits))).fdiv ((2 : Int) ^ min (16 : Nat) IntKind.i64.bits))).fdiv ((2 : Int) ^ min (16 : Nat) IntKind.i64.bits))).fdiv ((2 : Int) ^ min (16 : Nat) IntKind.i64.bits))).fdiv ((2 : Int) ^ min (16 : Nat) IntKind.i64.bits))) &&& BitVec.ofInt IntKind.i64.bits (65535 : Int)).toNat : Int)))], [(.int .i64 (IntKind.i64.wrap (↑(BitVec.ofInt IntKind.i64.bits (IntKind.i64.wrap (h + (IntKind.i64.wrap (g + (IntKind.i64.wrap (f + (IntKind.i64.wrap (e + (IntKind.i64.wrap (d + (IntKind.i64.wrap (c + (IntKind.i64.wrap (b + a.fdiv ((2 : Int) ^ min (16 : Nat) IntKind.i64.bits))).fdiv ((2 : Int) ^ min (16 : Nat) IntKind.i64.bits))).fdiv ((2 : Int) ^ min (16 : Nat) IntKind.i64.bits))).fdiv ((2 : Int) ^ min (16 : Nat) IntKind.i64.bits))).fdiv ((2 : Int) ^ min (16 : Nat) IntKind.i64.bits))).fdiv ((2 : Int) ^ min (16 : Nat) IntKind.i64.bits))).fdiv ((2 : Int) ^ min (16 : Nat) IntKind.i64.bits))) &&& BitVec.ofInt IntKind.i64.bits (65535 : Int)).toNat : Int)))], [(.int .i64 (IntKind.i64.wrap (i + (IntKind.i64.wrap (h + (IntKind.i64.wrap (g + (IntKind.i64.wrap (f + (IntKind.i64.wrap (e + (IntKind.i64.wrap (d + (IntKind.i64.wrap (c + (IntKind.i64.wrap (b + a.fdiv ((2 : Int) ^ min (16 : Nat) IntKind.i64.bits))).fdiv ((2 : Int) ^ min (16 : Nat) IntKind.i64.bits))).fdiv ((2 : Int) ^ min (16 : Nat) IntKind.i64.bits))).fdiv ((2 : Int) ^ min (16 : Nat) IntKind.i64.bits))).fdiv ((2 : Int) ^ min (16 : Nat) IntKind.i64.bits))).fdiv ((2 : Int) ^ min (16 : Nat) IntKind.i64.bits))).fdiv ((2 : Int) ^ min (16 : Nat) IntKind.i64.bits))).fdiv ((2 : Int) ^ min (16 : Nat) IntKind.i64.bits))))]])) from by kernel_rfl).trans (by first | rfl | (simp only [decide_true, decide_false, eq_self, and_true, true_and, and_self, cond_true, cond_false, Nat.le_refl, Int.le_refl, Option.getD_some, Option.getD_none, Int.toNat_natCast, List.take_length, List.drop_zero, Nat.zero_add, List.nil_append, List.all_nil, List.append_nil, Bool.true_and, Bool.and_true, rowsA_sla, rowsA_sl, rowsA_nil, minus_zero, nat_le_cast, nat_nonneg, Option.isSome_some, Option.isSome_none, Bool.false_eq_true, false_and, and_false, if_true, if_false, implies_true, Int.toNat_zero, Bool.not_false, Bool.not_true, bne_self_eq_false]; done) | (simp only [decide_true, decide_false, eq_self, and_true, true_and, and_self, cond_true, cond_false, Nat.le_refl, Int.le_refl, Option.getD_some, Option.getD_none, Int.toNat_natCast, List.take_length, List.drop_zero, Nat.zero_add, List.nil_append, List.all_nil, List.append_nil, Bool.true_and, Bool.and_true, rowsA_sla, rowsA_sl, rowsA_nil, minus_zero, nat_le_cast, nat_nonneg, Option.isSome_some, Option.isSome_none, Bool.false_eq_true, false_and, and_false, if_true, if_false, implies_true, Int.toNat_zero, Bool.not_false, Bool.not_true, bne_self_eq_false]; rfl))
theorem t33 (L n : Nat) (a b c d e f g h i V : Nat) (x y : Nat) : FK tab (spAdd 39 (carS a b c d e f g h i V) noSp) lsp0 20 (n+8) 33 [.int .i64 x, .int .i64 y] =
   (need
 ((carS a b c d e f g h i V).D
 [DV.mv (2 : TypeId) (1 : Nat)
 [[DV.int .i64
 (IntKind.i64.wrap
 ((0 : Int) +
 IntKind.i64.wrap
 (IntKind.i64.wrap (↑(BitVec.ofInt IntKind.i64.bits (↑x : Int) &&& BitVec.ofInt IntKind.i64.bits (65535 : Int)).toNat : Int) *
 IntKind.i64.wrap
 (↑(BitVec.ofInt IntKind.i64.bits
 ((↑y : Int).fdiv ((2 : Int) ^ min (IntKind.u64.wrap (IntKind.i64.wrap (0 : Int))).toNat IntKind.i64.bits)) &&&
 BitVec.ofInt IntKind.i64.bits (65535 : Int)).toNat :
 Int))))],
 [DV.int .i64
 (IntKind.i64.wrap
 (IntKind.i64.wrap
 ((0 : Int) +
 IntKind.i64.wrap
 (IntKind.i64.wrap (↑(BitVec.ofInt IntKind.i64.bits (↑x : Int) &&& BitVec.ofInt IntKind.i64.bits (65535 : Int)).toNat : Int) *
 IntKind.i64.wrap
 (↑(BitVec.ofInt IntKind.i64.bits
 ((↑y : Int).fdiv
 ((2 : Int) ^
 min (IntKind.u64.wrap (IntKind.i64.wrap ((16 : Int) * IntKind.i64.wrap (1 : Int)))).toNat IntKind.i64.bits)) &&&
 BitVec.ofInt IntKind.i64.bits (65535 : Int)).toNat :
 Int))) +
 IntKind.i64.wrap
 (IntKind.i64.wrap
 (↑(BitVec.ofInt IntKind.i64.bits ((↑x : Int).fdiv ((2 : Int) ^ min (16 : Nat) IntKind.i64.bits)) &&&
 BitVec.ofInt IntKind.i64.bits (65535 : Int)).toNat :
 Int) *
 IntKind.i64.wrap
 (↑(BitVec.ofInt IntKind.i64.bits
 ((↑y : Int).fdiv ((2 : Int) ^ min (IntKind.u64.wrap (IntKind.i64.wrap (0 : Int))).toNat IntKind.i64.bits)) &&&
 BitVec.ofInt IntKind.i64.bits (65535 : Int)).toNat :
 Int))))],
 [DV.int .i64
 (IntKind.i64.wrap
 (IntKind.i64.wrap
 (IntKind.i64.wrap
 ((0 : Int) +
 IntKind.i64.wrap
 (IntKind.i64.wrap (↑(BitVec.ofInt IntKind.i64.bits (↑x : Int) &&& BitVec.ofInt IntKind.i64.bits (65535 : Int)).toNat : Int) *
 IntKind.i64.wrap
 (↑(BitVec.ofInt IntKind.i64.bits
 ((↑y : Int).fdiv
 ((2 : Int) ^
 min
 (IntKind.u64.wrap
 (IntKind.i64.wrap ((16 : Int) * IntKind.i64.wrap (IntKind.i64.wrap (1 : Int) + (1 : Int))))).toNat
 IntKind.i64.bits)) &&&
 BitVec.ofInt IntKind.i64.bits (65535 : Int)).toNat :
 Int))) +
 IntKind.i64.wrap
 (IntKind.i64.wrap
 (↑(BitVec.ofInt IntKind.i64.bits ((↑x : Int).fdiv ((2 : Int) ^ min (16 : Nat) IntKind.i64.bits)) &&&
 BitVec.ofInt IntKind.i64.bits (65535 : Int)).toNat :
 Int) *
 IntKind.i64.wrap
 (↑(BitVec.ofInt IntKind.i64.bits
 ((↑y : Int).fdiv
 ((2 : Int) ^
 min (IntKind.u64.wrap (IntKind.i64.wrap ((16 : Int) * IntKind.i64.wrap (1 : Int)))).toNat IntKind.i64.bits)) &&&
 BitVec.ofInt IntKind.i64.bits (65535 : Int)).toNat :
 Int))) +
 IntKind.i64.wrap
 (IntKind.i64.wrap
 (↑(BitVec.ofInt IntKind.i64.bits ((↑x : Int).fdiv ((2 : Int) ^ min (32 : Nat) IntKind.i64.bits)) &&&
 BitVec.ofInt IntKind.i64.bits (65535 : Int)).toNat :
 Int) *
 IntKind.i64.wrap
 (↑(BitVec.ofInt IntKind.i64.bits
 ((↑y : Int).fdiv ((2 : Int) ^ min (IntKind.u64.wrap (IntKind.i64.wrap (0 : Int))).toNat IntKind.i64.bits)) &&&
 BitVec.ofInt IntKind.i64.bits (65535 : Int)).toNat :
 Int))))],
 [DV.int .i64
 (IntKind.i64.wrap
 (IntKind.i64.wrap
 (IntKind.i64.wrap
 (IntKind.i64.wrap
 ((0 : Int) +
 IntKind.i64.wrap
 (IntKind.i64.wrap (↑(BitVec.ofInt IntKind.i64.bits (↑x : Int) &&& BitVec.ofInt IntKind.i64.bits (65535 : Int)).toNat : Int) *
 IntKind.i64.wrap
 (↑(BitVec.ofInt IntKind.i64.bits
 ((↑y : Int).fdiv
 ((2 : Int) ^
 min
 (IntKind.u64.wrap
 (IntKind.i64.wrap
 ((16 : Int) *
 IntKind.i64.wrap (IntKind.i64.wrap (IntKind.i64.wrap (1 : Int) + (1 : Int)) + (1 : Int))))).toNat
 IntKind.i64.bits)) &&&
 BitVec.ofInt IntKind.i64.bits (65535 : Int)).toNat :
 Int))) +
 IntKind.i64.wrap
 (IntKind.i64.wrap
 (↑(BitVec.ofInt IntKind.i64.bits ((↑x : Int).fdiv ((2 : Int) ^ min (16 : Nat) IntKind.i64.bits)) &&&
 BitVec.ofInt IntKind.i64.bits (65535 : Int)).toNat :
 Int) *
 IntKind.i64.wrap
 (↑(BitVec.ofInt IntKind.i64.bits
 ((↑y : Int).fdiv
 ((2 : Int) ^
 min
 (IntKind.u64.wrap
 (IntKind.i64.wrap ((16 : Int) * IntKind.i64.wrap (IntKind.i64.wrap (1 : Int) + (1 : Int))))).toNat
 IntKind.i64.bits)) &&&
 BitVec.ofInt IntKind.i64.bits (65535 : Int)).toNat :
 Int))) +
 IntKind.i64.wrap
 (IntKind.i64.wrap
 (↑(BitVec.ofInt IntKind.i64.bits ((↑x : Int).fdiv ((2 : Int) ^ min (32 : Nat) IntKind.i64.bits)) &&&
 BitVec.ofInt IntKind.i64.bits (65535 : Int)).toNat :
 Int) *
 IntKind.i64.wrap
 (↑(BitVec.ofInt IntKind.i64.bits
 ((↑y : Int).fdiv
 ((2 : Int) ^
 min (IntKind.u64.wrap (IntKind.i64.wrap ((16 : Int) * IntKind.i64.wrap (1 : Int)))).toNat IntKind.i64.bits)) &&&
 BitVec.ofInt IntKind.i64.bits (65535 : Int)).toNat :
 Int))) +
 IntKind.i64.wrap
 (IntKind.i64.wrap
 (↑(BitVec.ofInt IntKind.i64.bits ((↑x : Int).fdiv ((2 : Int) ^ min (48 : Nat) IntKind.i64.bits)) &&&
 BitVec.ofInt IntKind.i64.bits (65535 : Int)).toNat :
 Int) *
 IntKind.i64.wrap
 (↑(BitVec.ofInt IntKind.i64.bits
 ((↑y : Int).fdiv ((2 : Int) ^ min (IntKind.u64.wrap (IntKind.i64.wrap (0 : Int))).toNat IntKind.i64.bits)) &&&
 BitVec.ofInt IntKind.i64.bits (65535 : Int)).toNat :
 Int))))],
 [DV.int .i64
 (IntKind.i64.wrap
 (IntKind.i64.wrap
 (IntKind.i64.wrap
 ((0 : Int) +
 IntKind.i64.wrap
 (IntKind.i64.wrap
 (↑(BitVec.ofInt IntKind.i64.bits ((↑x : Int).fdiv ((2 : Int) ^ min (16 : Nat) IntKind.i64.bits)) &&&
 BitVec.ofInt IntKind.i64.bits (65535 : Int)).toNat :
 Int) *
 IntKind.i64.wrap
 (↑(BitVec.ofInt IntKind.i64.bits
 ((↑y : Int).fdiv
 ((2 : Int) ^
 min
 (IntKind.u64.wrap
 (IntKind.i64.wrap
 ((16 : Int) *
 IntKind.i64.wrap (IntKind.i64.wrap (IntKind.i64.wrap (1 : Int) + (1 : Int)) + (1 : Int))))).toNat
 IntKind.i64.bits)) &&&
 BitVec.ofInt IntKind.i64.bits (65535 : Int)).toNat :
 Int))) +
 IntKind.i64.wrap
 (IntKind.i64.wrap
 (↑(BitVec.ofInt IntKind.i64.bits ((↑x : Int).fdiv ((2 : Int) ^ min (32 : Nat) IntKind.i64.bits)) &&&
 BitVec.ofInt IntKind.i64.bits (65535 : Int)).toNat :
 Int) *
 IntKind.i64.wrap
 (↑(BitVec.ofInt IntKind.i64.bits
 ((↑y : Int).fdiv
 ((2 : Int) ^
 min
 (IntKind.u64.wrap (IntKind.i64.wrap ((16 : Int) * IntKind.i64.wrap (IntKind.i64.wrap (1 : Int) + (1 : Int))))).toNat
 IntKind.i64.bits)) &&&
 BitVec.ofInt IntKind.i64.bits (65535 : Int)).toNat :
 Int))) +
 IntKind.i64.wrap
 (IntKind.i64.wrap
 (↑(BitVec.ofInt IntKind.i64.bits ((↑x : Int).fdiv ((2 : Int) ^ min (48 : Nat) IntKind.i64.bits)) &&&
 BitVec.ofInt IntKind.i64.bits (65535 : Int)).toNat :
 Int) *
 IntKind.i64.wrap
 (↑(BitVec.ofInt IntKind.i64.bits
 ((↑y : Int).fdiv
 ((2 : Int) ^
 min (IntKind.u64.wrap (IntKind.i64.wrap ((16 : Int) * IntKind.i64.wrap (1 : Int)))).toNat IntKind.i64.bits)) &&&
 BitVec.ofInt IntKind.i64.bits (65535 : Int)).toNat :
 Int))))],
 [DV.int .i64
 (IntKind.i64.wrap
 (IntKind.i64.wrap
 ((0 : Int) +
 IntKind.i64.wrap
 (IntKind.i64.wrap
 (↑(BitVec.ofInt IntKind.i64.bits ((↑x : Int).fdiv ((2 : Int) ^ min (32 : Nat) IntKind.i64.bits)) &&&
 BitVec.ofInt IntKind.i64.bits (65535 : Int)).toNat :
 Int) *
 IntKind.i64.wrap
 (↑(BitVec.ofInt IntKind.i64.bits
 ((↑y : Int).fdiv
 ((2 : Int) ^
 min
 (IntKind.u64.wrap
 (IntKind.i64.wrap
 ((16 : Int) *
 IntKind.i64.wrap (IntKind.i64.wrap (IntKind.i64.wrap (1 : Int) + (1 : Int)) + (1 : Int))))).toNat
 IntKind.i64.bits)) &&&
 BitVec.ofInt IntKind.i64.bits (65535 : Int)).toNat :
 Int))) +
 IntKind.i64.wrap
 (IntKind.i64.wrap
 (↑(BitVec.ofInt IntKind.i64.bits ((↑x : Int).fdiv ((2 : Int) ^ min (48 : Nat) IntKind.i64.bits)) &&&
 BitVec.ofInt IntKind.i64.bits (65535 : Int)).toNat :
 Int) *
 IntKind.i64.wrap
 (↑(BitVec.ofInt IntKind.i64.bits
 ((↑y : Int).fdiv
 ((2 : Int) ^
 min (IntKind.u64.wrap (IntKind.i64.wrap ((16 : Int) * IntKind.i64.wrap (IntKind.i64.wrap (1 : Int) + (1 : Int))))).toNat
 IntKind.i64.bits)) &&&
 BitVec.ofInt IntKind.i64.bits (65535 : Int)).toNat :
 Int))))],
 [DV.int .i64
 (IntKind.i64.wrap
 ((0 : Int) +
 IntKind.i64.wrap
 (IntKind.i64.wrap
 (↑(BitVec.ofInt IntKind.i64.bits ((↑x : Int).fdiv ((2 : Int) ^ min (48 : Nat) IntKind.i64.bits)) &&&
 BitVec.ofInt IntKind.i64.bits (65535 : Int)).toNat :
 Int) *
 IntKind.i64.wrap
 (↑(BitVec.ofInt IntKind.i64.bits
 ((↑y : Int).fdiv
 ((2 : Int) ^
 min
 (IntKind.u64.wrap
 (IntKind.i64.wrap
 ((16 : Int) * IntKind.i64.wrap (IntKind.i64.wrap (IntKind.i64.wrap (1 : Int) + (1 : Int)) + (1 : Int))))).toNat
 IntKind.i64.bits)) &&&
 BitVec.ofInt IntKind.i64.bits (65535 : Int)).toNat :
 Int))))],
 [DV.int .i64 0], [DV.int .i64 0]]])
 (some
 (DV.sl (SK.own (2 : TypeId)) (1 : Nat)
 [[DV.int .i64 (↑(V % (65536 : Nat)) : Int)], [DV.int .i64 (↑(V / (65536 : Nat) % (65536 : Nat)) : Int)],
 [DV.int .i64 (↑(V / (65536 : Nat) / (65536 : Nat) % (65536 : Nat)) : Int)],
 [DV.int .i64 (↑(V / (65536 : Nat) / (65536 : Nat) / (65536 : Nat) % (65536 : Nat)) : Int)],
 [DV.int .i64 (↑(V / (65536 : Nat) / (65536 : Nat) / (65536 : Nat) / (65536 : Nat) % (65536 : Nat)) : Int)],
 [DV.int .i64 (↑(V / (65536 : Nat) / (65536 : Nat) / (65536 : Nat) / (65536 : Nat) / (65536 : Nat) % (65536 : Nat)) : Int)],
 [DV.int .i64 (↑(V / (65536 : Nat) / (65536 : Nat) / (65536 : Nat) / (65536 : Nat) / (65536 : Nat) / (65536 : Nat) % (65536 : Nat)) : Int)],
 [DV.int .i64
 (↑(V / (65536 : Nat) / (65536 : Nat) / (65536 : Nat) / (65536 : Nat) / (65536 : Nat) / (65536 : Nat) / (65536 : Nat) % (65536 : Nat)) : Int)],
 [DV.int .i64
 (↑(V / (65536 : Nat) / (65536 : Nat) / (65536 : Nat) / (65536 : Nat) / (65536 : Nat) / (65536 : Nat) / (65536 : Nat) / (65536 : Nat)) : Int)]]))) :=
  (show FK tab (spAdd 39 (carS a b c d e f g h i V) noSp) lsp0 20 (n+8) 33 [.int .i64 x, .int .i64 y] =
 (need (FSpec.D (carS a b c d e f g h i V) [(.mv 2 1 [[(.int .i64 (IntKind.i64.wrap ((0 : Int) + IntKind.i64.wrap (IntKind.i64.wrap (↑(BitVec.ofInt IntKind.i64.bits (↑x : Int) &&& BitVec.ofInt IntKind.i64.bits (65535 : Int)).toNat : Int) * IntKind.i64.wrap (↑(BitVec.ofInt IntKind.i64.bits ((↑y : Int).fdiv ((2 : Int) ^ min (IntKind.u64.wrap (IntKind.i64.wrap (0 : Int))).toNat IntKind.i64.bits)) &&& BitVec.ofInt IntKind.i64.bits (65535 : Int)).toNat : Int)))))], [(.int .i64 (IntKind.i64.wrap (IntKind.i64.wrap ((0 : Int) + IntKind.i64.wrap (IntKind.i64.wrap (↑(BitVec.ofInt IntKind.i64.bits (↑x : Int) &&& BitVec.ofInt IntKind.i64.bits (65535 : Int)).toNat : Int) * IntKind.i64.wrap (↑(BitVec.ofInt IntKind.i64.bits ((↑y : Int).fdiv ((2 : Int) ^ min (IntKind.u64.wrap (IntKind.i64.wrap ((16 : Int) * IntKind.i64.wrap (1 : Int)))).toNat IntKind.i64.bits)) &&& BitVec.ofInt IntKind.i64.bits (65535 : Int)).toNat : Int))) + IntKind.i64.wrap (IntKind.i64.wrap (↑(BitVec.ofInt IntKind.i64.bits ((↑x : Int).fdiv ((2 : Int) ^ min (16 : Nat) IntKind.i64.bits)) &&& BitVec.ofInt IntKind.i64.bits (65535 : Int)).toNat : Int) * IntKind.i64.wrap (↑(BitVec.ofInt IntKind.i64.bits ((↑y : Int).fdiv ((2 : Int) ^ min (IntKind.u64.wrap (IntKind.i64.wrap (0 : Int))).toNat IntKind.i64.bits)) &&& BitVec.ofInt IntKind.i64.bits (65535 : Int)).toNat : Int)))))], [(.int .i64 (IntKind.i64.wrap (IntKind.i64.wrap (IntKind.i64.wrap ((0 : Int) + IntKind.i64.wrap (IntKind.i64.wrap (↑(BitVec.ofInt IntKind.i64.bits (↑x : Int) &&& BitVec.ofInt IntKind.i64.bits (65535 : Int)).toNat : Int) * IntKind.i64.wrap (↑(BitVec.ofInt IntKind.i64.bits ((↑y : Int).fdiv ((2 : Int) ^ min (IntKind.u64.wrap (IntKind.i64.wrap ((16 : Int) * IntKind.i64.wrap (IntKind.i64.wrap (1 : Int) + (1 : Int))))).toNat IntKind.i64.bits)) &&& BitVec.ofInt IntKind.i64.bits (65535 : Int)).toNat : Int))) + IntKind.i64.wrap (IntKind.i64.wrap (↑(BitVec.ofInt IntKind.i64.bits ((↑x : Int).fdiv ((2 : Int) ^ min (16 : Nat) IntKind.i64.bits)) &&& BitVec.ofInt IntKind.i64.bits (65535 : Int)).toNat : Int) * IntKind.i64.wrap (↑(BitVec.ofInt IntKind.i64.bits ((↑y : Int).fdiv ((2 : Int) ^ min (IntKind.u64.wrap (IntKind.i64.wrap ((16 : Int) * IntKind.i64.wrap (1 : Int)))).toNat IntKind.i64.bits)) &&& BitVec.ofInt IntKind.i64.bits (65535 : Int)).toNat : Int))) + IntKind.i64.wrap (IntKind.i64.wrap (↑(BitVec.ofInt IntKind.i64.bits ((↑x : Int).fdiv ((2 : Int) ^ min (32 : Nat) IntKind.i64.bits)) &&& BitVec.ofInt IntKind.i64.bits (65535 : Int)).toNat : Int) * IntKind.i64.wrap (↑(BitVec.ofInt IntKind.i64.bits ((↑y : Int).fdiv ((2 : Int) ^ min (IntKind.u64.wrap (IntKind.i64.wrap (0 : Int))).toNat IntKind.i64.bits)) &&& BitVec.ofInt IntKind.i64.bits (65535 : Int)).toNat : Int)))))], [(.int .i64 (IntKind.i64.wrap (IntKind.i64.wrap (IntKind.i64.wrap (IntKind.i64.wrap ((0 : Int) + IntKind.i64.wrap (IntKind.i64.wrap (↑(BitVec.ofInt IntKind.i64.bits (↑x : Int) &&& BitVec.ofInt IntKind.i64.bits (65535 : Int)).toNat : Int) * IntKind.i64.wrap (↑(BitVec.ofInt IntKind.i64.bits ((↑y : Int).fdiv ((2 : Int) ^ min (IntKind.u64.wrap (IntKind.i64.wrap ((16 : Int) * IntKind.i64.wrap (IntKind.i64.wrap (IntKind.i64.wrap (1 : Int) + (1 : Int)) + (1 : Int))))).toNat IntKind.i64.bits)) &&& BitVec.ofInt IntKind.i64.bits (65535 : Int)).toNat : Int))) + IntKind.i64.wrap (IntKind.i64.wrap (↑(BitVec.ofInt IntKind.i64.bits ((↑x : Int).fdiv ((2 : Int) ^ min (16 : Nat) IntKind.i64.bits)) &&& BitVec.ofInt IntKind.i64.bits (65535 : Int)).toNat : Int) * IntKind.i64.wrap (↑(BitVec.ofInt IntKind.i64.bits ((↑y : Int).fdiv ((2 : Int) ^ min (IntKind.u64.wrap (IntKind.i64.wrap ((16 : Int) * IntKind.i64.wrap (IntKind.i64.wrap (1 : Int) + (1 : Int))))).toNat IntKind.i64.bits)) &&& BitVec.ofInt IntKind.i64.bits (65535 : Int)).toNat : Int))) + IntKind.i64.wrap (IntKind.i64.wrap (↑(BitVec.ofInt IntKind.i64.bits ((↑x : Int).fdiv ((2 : Int) ^ min (32 : Nat) IntKind.i64.bits)) &&& BitVec.ofInt IntKind.i64.bits (65535 : Int)).toNat : Int) * IntKind.i64.wrap (↑(BitVec.ofInt IntKind.i64.bits ((↑y : Int).fdiv ((2 : Int) ^ min (IntKind.u64.wrap (IntKind.i64.wrap ((16 : Int) * IntKind.i64.wrap (1 : Int)))).toNat IntKind.i64.bits)) &&& BitVec.ofInt IntKind.i64.bits (65535 : Int)).toNat : Int))) + IntKind.i64.wrap (IntKind.i64.wrap (↑(BitVec.ofInt IntKind.i64.bits ((↑x : Int).fdiv ((2 : Int) ^ min (48 : Nat) IntKind.i64.bits)) &&& BitVec.ofInt IntKind.i64.bits (65535 : Int)).toNat : Int) * IntKind.i64.wrap (↑(BitVec.ofInt IntKind.i64.bits ((↑y : Int).fdiv ((2 : Int) ^ min (IntKind.u64.wrap (IntKind.i64.wrap (0 : Int))).toNat IntKind.i64.bits)) &&& BitVec.ofInt IntKind.i64.bits (65535 : Int)).toNat : Int)))))], [(.int .i64 (IntKind.i64.wrap (IntKind.i64.wrap (IntKind.i64.wrap ((0 : Int) + IntKind.i64.wrap (IntKind.i64.wrap (↑(BitVec.ofInt IntKind.i64.bits ((↑x : Int).fdiv ((2 : Int) ^ min (16 : Nat) IntKind.i64.bits)) &&& BitVec.ofInt IntKind.i64.bits (65535 : Int)).toNat : Int) * IntKind.i64.wrap (↑(BitVec.ofInt IntKind.i64.bits ((↑y : Int).fdiv ((2 : Int) ^ min (IntKind.u64.wrap (IntKind.i64.wrap ((16 : Int) * IntKind.i64.wrap (IntKind.i64.wrap (IntKind.i64.wrap (1 : Int) + (1 : Int)) + (1 : Int))))).toNat IntKind.i64.bits)) &&& BitVec.ofInt IntKind.i64.bits (65535 : Int)).toNat : Int))) + IntKind.i64.wrap (IntKind.i64.wrap (↑(BitVec.ofInt IntKind.i64.bits ((↑x : Int).fdiv ((2 : Int) ^ min (32 : Nat) IntKind.i64.bits)) &&& BitVec.ofInt IntKind.i64.bits (65535 : Int)).toNat : Int) * IntKind.i64.wrap (↑(BitVec.ofInt IntKind.i64.bits ((↑y : Int).fdiv ((2 : Int) ^ min (IntKind.u64.wrap (IntKind.i64.wrap ((16 : Int) * IntKind.i64.wrap (IntKind.i64.wrap (1 : Int) + (1 : Int))))).toNat IntKind.i64.bits)) &&& BitVec.ofInt IntKind.i64.bits (65535 : Int)).toNat : Int))) + IntKind.i64.wrap (IntKind.i64.wrap (↑(BitVec.ofInt IntKind.i64.bits ((↑x : Int).fdiv ((2 : Int) ^ min (48 : Nat) IntKind.i64.bits)) &&& BitVec.ofInt IntKind.i64.bits (65535 : Int)).toNat : Int) * IntKind.i64.wrap (↑(BitVec.ofInt IntKind.i64.bits ((↑y : Int).fdiv ((2 : Int) ^ min (IntKind.u64.wrap (IntKind.i64.wrap ((16 : Int) * IntKind.i64.wrap (1 : Int)))).toNat IntKind.i64.bits)) &&& BitVec.ofInt IntKind.i64.bits (65535 : Int)).toNat : Int)))))], [(.int .i64 (IntKind.i64.wrap (IntKind.i64.wrap ((0 : Int) + IntKind.i64.wrap (IntKind.i64.wrap (↑(BitVec.ofInt IntKind.i64.bits ((↑x : Int).fdiv ((2 : Int) ^ min (32 : Nat) IntKind.i64.bits)) &&& BitVec.ofInt IntKind.i64.bits (65535 : Int)).toNat : Int) * IntKind.i64.wrap (↑(BitVec.ofInt IntKind.i64.bits ((↑y : Int).fdiv ((2 : Int) ^ min (IntKind.u64.wrap (IntKind.i64.wrap ((16 : Int) * IntKind.i64.wrap (IntKind.i64.wrap (IntKind.i64.wrap (1 : Int) + (1 : Int)) + (1 : Int))))).toNat IntKind.i64.bits)) &&& BitVec.ofInt IntKind.i64.bits (65535 : Int)).toNat : Int))) + IntKind.i64.wrap (IntKind.i64.wrap (↑(BitVec.ofInt IntKind.i64.bits ((↑x : Int).fdiv ((2 : Int) ^ min (48 : Nat) IntKind.i64.bits)) &&& BitVec.ofInt IntKind.i64.bits (65535 : Int)).toNat : Int) * IntKind.i64.wrap (↑(BitVec.ofInt IntKind.i64.bits ((↑y : Int).fdiv ((2 : Int) ^ min (IntKind.u64.wrap (IntKind.i64.wrap ((16 : Int) * IntKind.i64.wrap (IntKind.i64.wrap (1 : Int) + (1 : Int))))).toNat IntKind.i64.bits)) &&& BitVec.ofInt IntKind.i64.bits (65535 : Int)).toNat : Int)))))], [(.int .i64 (IntKind.i64.wrap ((0 : Int) + IntKind.i64.wrap (IntKind.i64.wrap (↑(BitVec.ofInt IntKind.i64.bits ((↑x : Int).fdiv ((2 : Int) ^ min (48 : Nat) IntKind.i64.bits)) &&& BitVec.ofInt IntKind.i64.bits (65535 : Int)).toNat : Int) * IntKind.i64.wrap (↑(BitVec.ofInt IntKind.i64.bits ((↑y : Int).fdiv ((2 : Int) ^ min (IntKind.u64.wrap (IntKind.i64.wrap ((16 : Int) * IntKind.i64.wrap (IntKind.i64.wrap (IntKind.i64.wrap (1 : Int) + (1 : Int)) + (1 : Int))))).toNat IntKind.i64.bits)) &&& BitVec.ofInt IntKind.i64.bits (65535 : Int)).toNat : Int)))))], [(.int .i64 ((0 : Int)))], [(.int .i64 ((0 : Int)))]])])
 (some (.sl (SK.own (2 : TypeId)) 1 [[(.int .i64 ((↑(V % (65536 : Nat)) : Int)))], [(.int .i64 ((↑(V / (65536 : Nat) % (65536 : Nat)) : Int)))], [(.int .i64 ((↑(V / (65536 : Nat) / (65536 : Nat) % (65536 : Nat)) : Int)))], [(.int .i64 ((↑(V / (65536 : Nat) / (65536 : Nat) / (65536 : Nat) % (65536 : Nat)) : Int)))], [(.int .i64 ((↑(V / (65536 : Nat) / (65536 : Nat) / (65536 : Nat) / (65536 : Nat) % (65536 : Nat)) : Int)))], [(.int .i64 ((↑(V / (65536 : Nat) / (65536 : Nat) / (65536 : Nat) / (65536 : Nat) / (65536 : Nat) % (65536 : Nat)) : Int)))], [(.int .i64 ((↑(V / (65536 : Nat) / (65536 : Nat) / (65536 : Nat) / (65536 : Nat) / (65536 : Nat) / (65536 : Nat) % (65536 : Nat)) : Int)))], [(.int .i64 ((↑(V / (65536 : Nat) / (65536 : Nat) / (65536 : Nat) / (65536 : Nat) / (65536 : Nat) / (65536 : Nat) / (65536 : Nat) % (65536 : Nat)) : Int)))], [(.int .i64 ((↑(V / (65536 : Nat) / (65536 : Nat) / (65536 : Nat) / (65536 : Nat) / (65536 : Nat) / (65536 : Nat) / (65536 : Nat) / (65536 : Nat)) : Int)))]]))) from by kernel_rfl).trans (by first | rfl | (simp only [decide_true, decide_false, eq_self, and_true, true_and, and_self, cond_true, cond_false, Nat.le_refl, Int.le_refl, Option.getD_some, Option.getD_none, Int.toNat_natCast, List.take_length, List.drop_zero, Nat.zero_add, List.nil_append, List.all_nil, List.append_nil, Bool.true_and, Bool.and_true, rowsA_sla, rowsA_sl, rowsA_nil, minus_zero, nat_le_cast, nat_nonneg, Option.isSome_some, Option.isSome_none, Bool.false_eq_true, false_and, and_false, if_true, if_false, implies_true, Int.toNat_zero, Bool.not_false, Bool.not_true, bne_self_eq_false]; done) | (simp only [decide_true, decide_false, eq_self, and_true, true_and, and_self, cond_true, cond_false, Nat.le_refl, Int.le_refl, Option.getD_some, Option.getD_none, Int.toNat_natCast, List.take_length, List.drop_zero, Nat.zero_add, List.nil_append, List.all_nil, List.append_nil, Bool.true_and, Bool.and_true, rowsA_sla, rowsA_sl, rowsA_nil, minus_zero, nat_le_cast, nat_nonneg, Option.isSome_some, Option.isSome_none, Bool.false_eq_true, false_and, and_false, if_true, if_false, implies_true, Int.toNat_zero, Bool.not_false, Bool.not_true, bne_self_eq_false]; rfl))
theorem t34 (L n : Nat) (a b c d e f g h i V : Nat) (x y : Nat) : FK tab (spAdd 39 (carS a b c d e f g h i V) noSp) lsp0 20 (n+8) 34 [.mv 2 1 (dig9 x), .int .i64 y] =
   (need
 ((carS a b c d e f g h i V).D
 [DV.mv (2 : TypeId) (1 : Nat)
 [[DV.int .i64 (IntKind.i64.wrap ((↑(x % (65536 : Nat)) : Int) * (↑y : Int)))],
 [DV.int .i64 (IntKind.i64.wrap ((↑(x / (65536 : Nat) % (65536 : Nat)) : Int) * (↑y : Int)))],
 [DV.int .i64 (IntKind.i64.wrap ((↑(x / (65536 : Nat) / (65536 : Nat) % (65536 : Nat)) : Int) * (↑y : Int)))],
 [DV.int .i64 (IntKind.i64.wrap ((↑(x / (65536 : Nat) / (65536 : Nat) / (65536 : Nat) % (65536 : Nat)) : Int) * (↑y : Int)))],
 [DV.int .i64 (IntKind.i64.wrap ((↑(x / (65536 : Nat) / (65536 : Nat) / (65536 : Nat) / (65536 : Nat) % (65536 : Nat)) : Int) * (↑y : Int)))],
 [DV.int .i64
 (IntKind.i64.wrap ((↑(x / (65536 : Nat) / (65536 : Nat) / (65536 : Nat) / (65536 : Nat) / (65536 : Nat) % (65536 : Nat)) : Int) * (↑y : Int)))],
 [DV.int .i64
 (IntKind.i64.wrap
 ((↑(x / (65536 : Nat) / (65536 : Nat) / (65536 : Nat) / (65536 : Nat) / (65536 : Nat) / (65536 : Nat) % (65536 : Nat)) : Int) * (↑y : Int)))],
 [DV.int .i64
 (IntKind.i64.wrap
 ((↑(x / (65536 : Nat) / (65536 : Nat) / (65536 : Nat) / (65536 : Nat) / (65536 : Nat) / (65536 : Nat) / (65536 : Nat) % (65536 : Nat)) : Int) *
 (↑y : Int)))],
 [DV.int .i64
 (IntKind.i64.wrap
 ((↑(x / (65536 : Nat) / (65536 : Nat) / (65536 : Nat) / (65536 : Nat) / (65536 : Nat) / (65536 : Nat) / (65536 : Nat) / (65536 : Nat)) : Int) *
 (↑y : Int)))]]])
 (some
 (DV.sl (SK.own (2 : TypeId)) (1 : Nat)
 [[DV.int .i64 (↑(V % (65536 : Nat)) : Int)], [DV.int .i64 (↑(V / (65536 : Nat) % (65536 : Nat)) : Int)],
 [DV.int .i64 (↑(V / (65536 : Nat) / (65536 : Nat) % (65536 : Nat)) : Int)],
 [DV.int .i64 (↑(V / (65536 : Nat) / (65536 : Nat) / (65536 : Nat) % (65536 : Nat)) : Int)],
 [DV.int .i64 (↑(V / (65536 : Nat) / (65536 : Nat) / (65536 : Nat) / (65536 : Nat) % (65536 : Nat)) : Int)],
 [DV.int .i64 (↑(V / (65536 : Nat) / (65536 : Nat) / (65536 : Nat) / (65536 : Nat) / (65536 : Nat) % (65536 : Nat)) : Int)],
 [DV.int .i64 (↑(V / (65536 : Nat) / (65536 : Nat) / (65536 : Nat) / (65536 : Nat) / (65536 : Nat) / (65536 : Nat) % (65536 : Nat)) : Int)],
 [DV.int .i64
 (↑(V / (65536 : Nat) / (65536 : Nat) / (65536 : Nat) / (65536 : Nat) / (65536 : Nat) / (65536 : Nat) / (65536 : Nat) % (65536 : Nat)) : Int)],
 [DV.int .i64
 (↑(V / (65536 : Nat) / (65536 : Nat) / (65536 : Nat) / (65536 : Nat) / (65536 : Nat) / (65536 : Nat) / (65536 : Nat) / (65536 : Nat)) : Int)]]))) :=
  (show FK tab (spAdd 39 (carS a b c d e f g h i V) noSp) lsp0 20 (n+8) 34 [.mv 2 1 (dig9 x), .int .i64 y] =
 (need (FSpec.D (carS a b c d e f g h i V) [(.mv 2 1 [[(.int .i64 (IntKind.i64.wrap ((↑(x % (65536 : Nat)) : Int) * (↑y : Int))))], [(.int .i64 (IntKind.i64.wrap ((↑(x / (65536 : Nat) % (65536 : Nat)) : Int) * (↑y : Int))))], [(.int .i64 (IntKind.i64.wrap ((↑(x / (65536 : Nat) / (65536 : Nat) % (65536 : Nat)) : Int) * (↑y : Int))))], [(.int .i64 (IntKind.i64.wrap ((↑(x / (65536 : Nat) / (65536 : Nat) / (65536 : Nat) % (65536 : Nat)) : Int) * (↑y : Int))))], [(.int .i64 (IntKind.i64.wrap ((↑(x / (65536 : Nat) / (65536 : Nat) / (65536 : Nat) / (65536 : Nat) % (65536 : Nat)) : Int) * (↑y : Int))))], [(.int .i64 (IntKind.i64.wrap ((↑(x / (65536 : Nat) / (65536 : Nat) / (65536 : Nat) / (65536 : Nat) / (65536 : Nat) % (65536 : Nat)) : Int) * (↑y : Int))))], [(.int .i64 (IntKind.i64.wrap ((↑(x / (65536 : Nat) / (65536 : Nat) / (65536 : Nat) / (65536 : Nat) / (65536 : Nat) / (65536 : Nat) % (65536 : Nat)) : Int) * (↑y : Int))))], [(.int .i64 (IntKind.i64.wrap ((↑(x / (65536 : Nat) / (65536 : Nat) / (65536 : Nat) / (65536 : Nat) / (65536 : Nat) / (65536 : Nat) / (65536 : Nat) % (65536 : Nat)) : Int) * (↑y : Int))))], [(.int .i64 (IntKind.i64.wrap ((↑(x / (65536 : Nat) / (65536 : Nat) / (65536 : Nat) / (65536 : Nat) / (65536 : Nat) / (65536 : Nat) / (65536 : Nat) / (65536 : Nat)) : Int) * (↑y : Int))))]])])
 (some (.sl (SK.own (2 : TypeId)) 1 [[(.int .i64 ((↑(V % (65536 : Nat)) : Int)))], [(.int .i64 ((↑(V / (65536 : Nat) % (65536 : Nat)) : Int)))], [(.int .i64 ((↑(V / (65536 : Nat) / (65536 : Nat) % (65536 : Nat)) : Int)))], [(.int .i64 ((↑(V / (65536 : Nat) / (65536 : Nat) / (65536 : Nat) % (65536 : Nat)) : Int)))], [(.int .i64 ((↑(V / (65536 : Nat) / (65536 : Nat) / (65536 : Nat) / (65536 : Nat) % (65536 : Nat)) : Int)))], [(.int .i64 ((↑(V / (65536 : Nat) / (65536 : Nat) / (65536 : Nat) / (65536 : Nat) / (65536 : Nat) % (65536 : Nat)) : Int)))], [(.int .i64 ((↑(V / (65536 : Nat) / (65536 : Nat) / (65536 : Nat) / (65536 : Nat) / (65536 : Nat) / (65536 : Nat) % (65536 : Nat)) : Int)))], [(.int .i64 ((↑(V / (65536 : Nat) / (65536 : Nat) / (65536 : Nat) / (65536 : Nat) / (65536 : Nat) / (65536 : Nat) / (65536 : Nat) % (65536 : Nat)) : Int)))], [(.int .i64 ((↑(V / (65536 : Nat) / (65536 : Nat) / (65536 : Nat) / (65536 : Nat) / (65536 : Nat) / (65536 : Nat) / (65536 : Nat) / (65536 : Nat)) : Int)))]]))) from by kernel_rfl).trans (by first | rfl | (simp only [decide_true, decide_false, eq_self, and_true, true_and, and_self, cond_true, cond_false, Nat.le_refl, Int.le_refl, Option.getD_some, Option.getD_none, Int.toNat_natCast, List.take_length, List.drop_zero, Nat.zero_add, List.nil_append, List.all_nil, List.append_nil, Bool.true_and, Bool.and_true, rowsA_sla, rowsA_sl, rowsA_nil, minus_zero, nat_le_cast, nat_nonneg, Option.isSome_some, Option.isSome_none, Bool.false_eq_true, false_and, and_false, if_true, if_false, implies_true, Int.toNat_zero, Bool.not_false, Bool.not_true, bne_self_eq_false]; done) | (simp only [decide_true, decide_false, eq_self, and_true, true_and, and_self, cond_true, cond_false, Nat.le_refl, Int.le_refl, Option.getD_some, Option.getD_none, Int.toNat_natCast, List.take_length, List.drop_zero, Nat.zero_add, List.nil_append, List.all_nil, List.append_nil, Bool.true_and, Bool.and_true, rowsA_sla, rowsA_sl, rowsA_nil, minus_zero, nat_le_cast, nat_nonneg, Option.isSome_some, Option.isSome_none, Bool.false_eq_true, false_and, and_false, if_true, if_false, implies_true, Int.toNat_zero, Bool.not_false, Bool.not_true, bne_self_eq_false]; rfl))
theorem t35 (L n : Nat) (a b c d e f g h i : Int) : FK tab noSp lsp0 20 (n+8) 35 [.mv 2 1 (rows9 a b c d e f g h i), .int .i64 10000] =
   (bif
 IntKind.i64.wrap
 ((IntKind.i64.wrap
 (IntKind.i64.wrap
 ((IntKind.i64.wrap
 (IntKind.i64.wrap
 ((IntKind.i64.wrap
 (IntKind.i64.wrap
 ((IntKind.i64.wrap
 (IntKind.i64.wrap
 ((IntKind.i64.wrap (IntKind.i64.wrap ((0 : Int) * (2 : Int) ^ min (16 : Nat) IntKind.i64.bits) + i)).tmod
 (10000 : Int) *
 (2 : Int) ^ min (16 : Nat) IntKind.i64.bits) +
 h)).tmod
 (10000 : Int) *
 (2 : Int) ^ min (16 : Nat) IntKind.i64.bits) +
 g)).tmod
 (10000 : Int) *
 (2 : Int) ^ min (16 : Nat) IntKind.i64.bits) +
 f)).tmod
 (10000 : Int) *
 (2 : Int) ^ min (16 : Nat) IntKind.i64.bits) +
 e)).tdiv
 (10000 : Int)) !=
 (0 : Int) then
 some (DV.tuple [DV.int .i64 0, DV.bool false])
 else
 bif
 IntKind.i64.wrap
 ((IntKind.i64.wrap
 (IntKind.i64.wrap
 ((IntKind.i64.wrap
 (IntKind.i64.wrap
 ((IntKind.i64.wrap
 (IntKind.i64.wrap
 ((IntKind.i64.wrap (IntKind.i64.wrap ((0 : Int) * (2 : Int) ^ min (16 : Nat) IntKind.i64.bits) + i)).tmod
 (10000 : Int) *
 (2 : Int) ^ min (16 : Nat) IntKind.i64.bits) +
 h)).tmod
 (10000 : Int) *
 (2 : Int) ^ min (16 : Nat) IntKind.i64.bits) +
 g)).tmod
 (10000 : Int) *
 (2 : Int) ^ min (16 : Nat) IntKind.i64.bits) +
 f)).tdiv
 (10000 : Int)) !=
 (0 : Int) then
 some (DV.tuple [DV.int .i64 0, DV.bool false])
 else
 bif
 IntKind.i64.wrap
 ((IntKind.i64.wrap
 (IntKind.i64.wrap
 ((IntKind.i64.wrap
 (IntKind.i64.wrap
 ((IntKind.i64.wrap (IntKind.i64.wrap ((0 : Int) * (2 : Int) ^ min (16 : Nat) IntKind.i64.bits) + i)).tmod (10000 : Int) *
 (2 : Int) ^ min (16 : Nat) IntKind.i64.bits) +
 h)).tmod
 (10000 : Int) *
 (2 : Int) ^ min (16 : Nat) IntKind.i64.bits) +
 g)).tdiv
 (10000 : Int)) !=
 (0 : Int) then
 some (DV.tuple [DV.int .i64 0, DV.bool false])
 else
 bif
 IntKind.i64.wrap
 ((IntKind.i64.wrap
 (IntKind.i64.wrap
 ((IntKind.i64.wrap (IntKind.i64.wrap ((0 : Int) * (2 : Int) ^ min (16 : Nat) IntKind.i64.bits) + i)).tmod (10000 : Int) *
 (2 : Int) ^ min (16 : Nat) IntKind.i64.bits) +
 h)).tdiv
 (10000 : Int)) !=
 (0 : Int) then
 some (DV.tuple [DV.int .i64 0, DV.bool false])
 else
 bif
 IntKind.i64.wrap ((IntKind.i64.wrap (IntKind.i64.wrap ((0 : Int) * (2 : Int) ^ min (16 : Nat) IntKind.i64.bits) + i)).tdiv (10000 : Int)) !=
 (0 : Int) then
 some (DV.tuple [DV.int .i64 0, DV.bool false])
 else
 bif
 decide
 (IntKind.i64.wrap
 ((IntKind.i64.wrap
 (IntKind.i64.wrap
 ((IntKind.i64.wrap
 (IntKind.i64.wrap
 ((IntKind.i64.wrap
 (IntKind.i64.wrap
 ((IntKind.i64.wrap
 (IntKind.i64.wrap
 ((IntKind.i64.wrap
 (IntKind.i64.wrap
 ((IntKind.i64.wrap
 (IntKind.i64.wrap
 ((0 : Int) * (2 : Int) ^ min (16 : Nat) IntKind.i64.bits) +
 i)).tmod
 (10000 : Int) *
 (2 : Int) ^ min (16 : Nat) IntKind.i64.bits) +
 h)).tmod
 (10000 : Int) *
 (2 : Int) ^ min (16 : Nat) IntKind.i64.bits) +
 g)).tmod
 (10000 : Int) *
 (2 : Int) ^ min (16 : Nat) IntKind.i64.bits) +
 f)).tmod
 (10000 : Int) *
 (2 : Int) ^ min (16 : Nat) IntKind.i64.bits) +
 e)).tmod
 (10000 : Int) *
 (2 : Int) ^ min (16 : Nat) IntKind.i64.bits) +
 d)).tdiv
 (10000 : Int)) ≥
 (32768 : Int)) then
 some (DV.tuple [DV.int .i64 0, DV.bool false])
 else
 some
 (DV.tuple
 [DV.int .i64
 (IntKind.i64.wrap
 (↑(BitVec.ofInt IntKind.i64.bits
 (IntKind.i64.wrap
 (↑(BitVec.ofInt IntKind.i64.bits
 (IntKind.i64.wrap
 (↑(BitVec.ofInt IntKind.i64.bits
 (IntKind.i64.wrap
 (IntKind.i64.wrap
 ((IntKind.i64.wrap
 (IntKind.i64.wrap
 ((IntKind.i64.wrap
 (IntKind.i64.wrap
 ((IntKind.i64.wrap
 (IntKind.i64.wrap
 ((IntKind.i64.wrap
 (IntKind.i64.wrap
 ((IntKind.i64.wrap
 (IntKind.i64.wrap
 ((IntKind.i64.wrap
 (IntKind.i64.wrap
 ((0 : Int) *
 (2 : Int) ^
 min (16 : Nat)
 IntKind.i64.bits) +
 i)).tmod
 (10000 : Int) *
 (2 : Int) ^
 min (16 : Nat) IntKind.i64.bits) +
 h)).tmod
 (10000 : Int) *
 (2 : Int) ^ min (16 : Nat) IntKind.i64.bits) +
 g)).tmod
 (10000 : Int) *
 (2 : Int) ^ min (16 : Nat) IntKind.i64.bits) +
 f)).tmod
 (10000 : Int) *
 (2 : Int) ^ min (16 : Nat) IntKind.i64.bits) +
 e)).tmod
 (10000 : Int) *
 (2 : Int) ^ min (16 : Nat) IntKind.i64.bits) +
 d)).tdiv
 (10000 : Int)) *
 (2 : Int) ^ min (48 : Nat) IntKind.i64.bits)) |||
 BitVec.ofInt IntKind.i64.bits
 (IntKind.i64.wrap
 (IntKind.i64.wrap
 ((IntKind.i64.wrap
 (IntKind.i64.wrap
 ((IntKind.i64.wrap
 (IntKind.i64.wrap
 ((IntKind.i64.wrap
 (IntKind.i64.wrap
 ((IntKind.i64.wrap
 (IntKind.i64.wrap
 ((IntKind.i64.wrap
 (IntKind.i64.wrap
 ((IntKind.i64.wrap
 (IntKind.i64.wrap
 ((IntKind.i64.wrap
 (IntKind.i64.wrap
 ((0 : Int) *
 (2 : Int) ^
 min
 (16 : Nat)
 IntKind.i64.bits) +
 i)).tmod
 (10000 : Int) *
 (2 : Int) ^
 min (16 : Nat)
 IntKind.i64.bits) +
 h)).tmod
 (10000 : Int) *
 (2 : Int) ^
 min (16 : Nat) IntKind.i64.bits) +
 g)).tmod
 (10000 : Int) *
 (2 : Int) ^ min (16 : Nat) IntKind.i64.bits) +
 f)).tmod
 (10000 : Int) *
 (2 : Int) ^ min (16 : Nat) IntKind.i64.bits) +
 e)).tmod
 (10000 : Int) *
 (2 : Int) ^ min (16 : Nat) IntKind.i64.bits) +
 d)).tmod
 (10000 : Int) *
 (2 : Int) ^ min (16 : Nat) IntKind.i64.bits) +
 c)).tdiv
 (10000 : Int)) *
 (2 : Int) ^ min (32 : Nat) IntKind.i64.bits))).toNat :
 Int)) |||
 BitVec.ofInt IntKind.i64.bits
 (IntKind.i64.wrap
 (IntKind.i64.wrap
 ((IntKind.i64.wrap
 (IntKind.i64.wrap
 ((IntKind.i64.wrap
 (IntKind.i64.wrap
 ((IntKind.i64.wrap
 (IntKind.i64.wrap
 ((IntKind.i64.wrap
 (IntKind.i64.wrap
 ((IntKind.i64.wrap
 (IntKind.i64.wrap
 ((IntKind.i64.wrap
 (IntKind.i64.wrap
 ((IntKind.i64.wrap
 (IntKind.i64.wrap
 ((IntKind.i64.wrap
 (IntKind.i64.wrap
 ((0 : Int) *
 (2 : Int) ^
 min
 (16 : Nat)
 IntKind.i64.bits) +
 i)).tmod
 (10000 : Int) *
 (2 : Int) ^
 min (16 : Nat)
 IntKind.i64.bits) +
 h)).tmod
 (10000 : Int) *
 (2 : Int) ^
 min (16 : Nat) IntKind.i64.bits) +
 g)).tmod
 (10000 : Int) *
 (2 : Int) ^ min (16 : Nat) IntKind.i64.bits) +
 f)).tmod
 (10000 : Int) *
 (2 : Int) ^ min (16 : Nat) IntKind.i64.bits) +
 e)).tmod
 (10000 : Int) *
 (2 : Int) ^ min (16 : Nat) IntKind.i64.bits) +
 d)).tmod
 (10000 : Int) *
 (2 : Int) ^ min (16 : Nat) IntKind.i64.bits) +
 c)).tmod
 (10000 : Int) *
 (2 : Int) ^ min (16 : Nat) IntKind.i64.bits) +
 b)).tdiv
 (10000 : Int)) *
 (2 : Int) ^ min (16 : Nat) IntKind.i64.bits))).toNat :
 Int)) |||
 BitVec.ofInt IntKind.i64.bits
 (IntKind.i64.wrap
 ((IntKind.i64.wrap
 (IntKind.i64.wrap
 ((IntKind.i64.wrap
 (IntKind.i64.wrap
 ((IntKind.i64.wrap
 (IntKind.i64.wrap
 ((IntKind.i64.wrap
 (IntKind.i64.wrap
 ((IntKind.i64.wrap
 (IntKind.i64.wrap
 ((IntKind.i64.wrap
 (IntKind.i64.wrap
 ((IntKind.i64.wrap
 (IntKind.i64.wrap
 ((IntKind.i64.wrap
 (IntKind.i64.wrap
 ((IntKind.i64.wrap
 (IntKind.i64.wrap
 ((0 : Int) *
 (2 : Int) ^
 min (16 : Nat)
 IntKind.i64.bits) +
 i)).tmod
 (10000 : Int) *
 (2 : Int) ^
 min (16 : Nat)
 IntKind.i64.bits) +
 h)).tmod
 (10000 : Int) *
 (2 : Int) ^
 min (16 : Nat) IntKind.i64.bits) +
 g)).tmod
 (10000 : Int) *
 (2 : Int) ^ min (16 : Nat) IntKind.i64.bits) +
 f)).tmod
 (10000 : Int) *
 (2 : Int) ^ min (16 : Nat) IntKind.i64.bits) +
 e)).tmod
 (10000 : Int) *
 (2 : Int) ^ min (16 : Nat) IntKind.i64.bits) +
 d)).tmod
 (10000 : Int) *
 (2 : Int) ^ min (16 : Nat) IntKind.i64.bits) +
 c)).tmod
 (10000 : Int) *
 (2 : Int) ^ min (16 : Nat) IntKind.i64.bits) +
 b)).tmod
 (10000 : Int) *
 (2 : Int) ^ min (16 : Nat) IntKind.i64.bits) +
 a)).tdiv
 (10000 : Int)))).toNat :
 Int)),
 DV.bool true])) :=
  (show FK tab noSp lsp0 20 (n+8) 35 [.mv 2 1 (rows9 a b c d e f g h i), .int .i64 10000] =
 (cond (IntKind.i64.wrap ((IntKind.i64.wrap (IntKind.i64.wrap ((IntKind.i64.wrap (IntKind.i64.wrap ((IntKind.i64.wrap (IntKind.i64.wrap ((IntKind.i64.wrap (IntKind.i64.wrap ((IntKind.i64.wrap (IntKind.i64.wrap ((0 : Int) * (2 : Int) ^ min (16 : Nat) IntKind.i64.bits) + i)).tmod (10000 : Int) * (2 : Int) ^ min (16 : Nat) IntKind.i64.bits) + h)).tmod (10000 : Int) * (2 : Int) ^ min (16 : Nat) IntKind.i64.bits) + g)).tmod (10000 : Int) * (2 : Int) ^ min (16 : Nat) IntKind.i64.bits) + f)).tmod (10000 : Int) * (2 : Int) ^ min (16 : Nat) IntKind.i64.bits) + e)).tdiv (10000 : Int)) != (0 : Int))
 (some (.tuple [(.int .i64 ((0 : Int))), (.bool false)]))
 (cond (IntKind.i64.wrap ((IntKind.i64.wrap (IntKind.i64.wrap ((IntKind.i64.wrap (IntKind.i64.wrap ((IntKind.i64.wrap (IntKind.i64.wrap ((IntKind.i64.wrap (IntKind.i64.wrap ((0 : Int) * (2 : Int) ^ min (16 : Nat) IntKind.i64.bits) + i)).tmod (10000 : Int) * (2 : Int) ^ min (16 : Nat) IntKind.i64.bits) + h)).tmod (10000 : Int) * (2 : Int) ^ min (16 : Nat) IntKind.i64.bits) + g)).tmod (10000 : Int) * (2 : Int) ^ min (16 : Nat) IntKind.i64.bits) + f)).tdiv (10000 : Int)) != (0 : Int))
 (some (.tuple [(.int .i64 ((0 : Int))), (.bool false)]))
 (cond (IntKind.i64.wrap ((IntKind.i64.wrap (IntKind.i64.wrap ((IntKind.i64.wrap (IntKind.i64.wrap ((IntKind.i64.wrap (IntKind.i64.wrap ((0 : Int) * (2 : Int) ^ min (16 : Nat) IntKind.i64.bits) + i)).tmod (10000 : Int) * (2 : Int) ^ min (16 : Nat) IntKind.i64.bits) + h)).tmod (10000 : Int) * (2 : Int) ^ min (16 : Nat) IntKind.i64.bits) + g)).tdiv (10000 : Int)) != (0 : Int))
 (some (.tuple [(.int .i64 ((0 : Int))), (.bool false)]))
 (cond (IntKind.i64.wrap ((IntKind.i64.wrap (IntKind.i64.wrap ((IntKind.i64.wrap (IntKind.i64.wrap ((0 : Int) * (2 : Int) ^ min (16 : Nat) IntKind.i64.bits) + i)).tmod (10000 : Int) * (2 : Int) ^ min (16 : Nat) IntKind.i64.bits) + h)).tdiv (10000 : Int)) != (0 : Int))
 (some (.tuple [(.int .i64 ((0 : Int))), (.bool false)]))
 (cond (IntKind.i64.wrap ((IntKind.i64.wrap (IntKind.i64.wrap ((0 : Int) * (2 : Int) ^ min (16 : Nat) IntKind.i64.bits) + i)).tdiv (10000 : Int)) != (0 : Int))
 (some (.tuple [(.int .i64 ((0 : Int))), (.bool false)]))
 (cond (decide (IntKind.i64.wrap ((IntKind.i64.wrap (IntKind.i64.wrap ((IntKind.i64.wrap (IntKind.i64.wrap ((IntKind.i64.wrap (IntKind.i64.wrap ((IntKind.i64.wrap (IntKind.i64.wrap ((IntKind.i64.wrap (IntKind.i64.wrap ((IntKind.i64.wrap (IntKind.i64.wrap ((0 : Int) * (2 : Int) ^ min (16 : Nat) IntKind.i64.bits) + i)).tmod (10000 : Int) * (2 : Int) ^ min (16 : Nat) IntKind.i64.bits) + h)).tmod (10000 : Int) * (2 : Int) ^ min (16 : Nat) IntKind.i64.bits) + g)).tmod (10000 : Int) * (2 : Int) ^ min (16 : Nat) IntKind.i64.bits) + f)).tmod (10000 : Int) * (2 : Int) ^ min (16 : Nat) IntKind.i64.bits) + e)).tmod (10000 : Int) * (2 : Int) ^ min (16 : Nat) IntKind.i64.bits) + d)).tdiv (10000 : Int)) ≥ (32768 : Int)))
 (some (.tuple [(.int .i64 ((0 : Int))), (.bool false)]))
 (some (.tuple [(.int .i64 (IntKind.i64.wrap (↑(BitVec.ofInt IntKind.i64.bits (IntKind.i64.wrap (↑(BitVec.ofInt IntKind.i64.bits (IntKind.i64.wrap (↑(BitVec.ofInt IntKind.i64.bits (IntKind.i64.wrap (IntKind.i64.wrap ((IntKind.i64.wrap (IntKind.i64.wrap ((IntKind.i64.wrap (IntKind.i64.wrap ((IntKind.i64.wrap (IntKind.i64.wrap ((IntKind.i64.wrap (IntKind.i64.wrap ((IntKind.i64.wrap (IntKind.i64.wrap ((IntKind.i64.wrap (IntKind.i64.wrap ((0 : Int) * (2 : Int) ^ min (16 : Nat) IntKind.i64.bits) + i)).tmod (10000 : Int) * (2 : Int) ^ min (16 : Nat) IntKind.i64.bits) + h)).tmod (10000 : Int) * (2 : Int) ^ min (16 : Nat) IntKind.i64.bits) + g)).tmod (10000 : Int) * (2 : Int) ^ min (16 : Nat) IntKind.i64.bits) + f)).tmod (10000 : Int) * (2 : Int) ^ min (16 : Nat) IntKind.i64.bits) + e)).tmod (10000 : Int) * (2 : Int) ^ min (16 : Nat) IntKind.i64.bits) + d)).tdiv (10000 : Int)) * (2 : Int) ^ min (48 : Nat) IntKind.i64.bits)) ||| BitVec.ofInt IntKind.i64.bits (IntKind.i64.wrap (IntKind.i64.wrap ((IntKind.i64.wrap (IntKind.i64.wrap ((IntKind.i64.wrap (IntKind.i64.wrap ((IntKind.i64.wrap (IntKind.i64.wrap ((IntKind.i64.wrap (IntKind.i64.wrap ((IntKind.i64.wrap (IntKind.i64.wrap ((IntKind.i64.wrap (IntKind.i64.wrap ((IntKind.i64.wrap (IntKind.i64.wrap ((0 : Int) * (2 : Int) ^ min (16 : Nat) IntKind.i64.bits) + i)).tmod (10000 : Int) * (2 : Int) ^ min (16 : Nat) IntKind.i64.bits) + h)).tmod (10000 : Int) * (2 : Int) ^ min (16 : Nat) IntKind.i64.bits) + g)).tmod (10000 : Int) * (2 : Int) ^ min (16 : Nat) IntKind.i64.bits) + f)).tmod (10000 : Int) * (2 : Int) ^ min (16 : Nat) IntKind.i64.bits) + e)).tmod (10000 : Int) * (2 : Int) ^ min (16 : Nat) IntKind.i64.bits) + d)).tmod (10000 : Int) * (2 : Int) ^ min (16 : Nat) IntKind.i64.bits) + c)).tdiv (10000 : Int)) * (2 : Int) ^ min (32 : Nat) IntKind.i64.bits))).toNat : Int)) ||| BitVec.ofInt IntKind.i64.bits (IntKind.i64.wrap (IntKind.i64.wrap ((IntKind.i64.wrap (IntKind.i64.wrap ((IntKind.i64.wrap (IntKind.i64.wrap ((IntKind.i64.wrap (IntKind.i64.wrap ((IntKind.i64.wrap (IntKind.i64.wrap ((IntKind.i64.wrap (IntKind.i64.wrap ((IntKind.i64.wrap (IntKind.i64.wrap ((IntKind.i64.wrap (IntKind.i64.wrap ((IntKind.i64.wrap (IntKind.i64.wrap ((0 : Int) * (2 : Int) ^ min (16 : Nat) IntKind.i64.bits) + i)).tmod (10000 : Int) * (2 : Int) ^ min (16 : Nat) IntKind.i64.bits) + h)).tmod (10000 : Int) * (2 : Int) ^ min (16 : Nat) IntKind.i64.bits) + g)).tmod (10000 : Int) * (2 : Int) ^ min (16 : Nat) IntKind.i64.bits) + f)).tmod (10000 : Int) * (2 : Int) ^ min (16 : Nat) IntKind.i64.bits) + e)).tmod (10000 : Int) * (2 : Int) ^ min (16 : Nat) IntKind.i64.bits) + d)).tmod (10000 : Int) * (2 : Int) ^ min (16 : Nat) IntKind.i64.bits) + c)).tmod (10000 : Int) * (2 : Int) ^ min (16 : Nat) IntKind.i64.bits) + b)).tdiv (10000 : Int)) * (2 : Int) ^ min (16 : Nat) IntKind.i64.bits))).toNat : Int)) ||| BitVec.ofInt IntKind.i64.bits (IntKind.i64.wrap ((IntKind.i64.wrap (IntKind.i64.wrap ((IntKind.i64.wrap (IntKind.i64.wrap ((IntKind.i64.wrap (IntKind.i64.wrap ((IntKind.i64.wrap (IntKind.i64.wrap ((IntKind.i64.wrap (IntKind.i64.wrap ((IntKind.i64.wrap (IntKind.i64.wrap ((IntKind.i64.wrap (IntKind.i64.wrap ((IntKind.i64.wrap (IntKind.i64.wrap ((IntKind.i64.wrap (IntKind.i64.wrap ((0 : Int) * (2 : Int) ^ min (16 : Nat) IntKind.i64.bits) + i)).tmod (10000 : Int) * (2 : Int) ^ min (16 : Nat) IntKind.i64.bits) + h)).tmod (10000 : Int) * (2 : Int) ^ min (16 : Nat) IntKind.i64.bits) + g)).tmod (10000 : Int) * (2 : Int) ^ min (16 : Nat) IntKind.i64.bits) + f)).tmod (10000 : Int) * (2 : Int) ^ min (16 : Nat) IntKind.i64.bits) + e)).tmod (10000 : Int) * (2 : Int) ^ min (16 : Nat) IntKind.i64.bits) + d)).tmod (10000 : Int) * (2 : Int) ^ min (16 : Nat) IntKind.i64.bits) + c)).tmod (10000 : Int) * (2 : Int) ^ min (16 : Nat) IntKind.i64.bits) + b)).tmod (10000 : Int) * (2 : Int) ^ min (16 : Nat) IntKind.i64.bits) + a)).tdiv (10000 : Int)))).toNat : Int))), (.bool true)])))))))) from by kernel_rfl).trans (by first | rfl | (simp only [decide_true, decide_false, eq_self, and_true, true_and, and_self, cond_true, cond_false, Nat.le_refl, Int.le_refl, Option.getD_some, Option.getD_none, Int.toNat_natCast, List.take_length, List.drop_zero, Nat.zero_add, List.nil_append, List.all_nil, List.append_nil, Bool.true_and, Bool.and_true, rowsA_sla, rowsA_sl, rowsA_nil, minus_zero, nat_le_cast, nat_nonneg, Option.isSome_some, Option.isSome_none, Bool.false_eq_true, false_and, and_false, if_true, if_false, implies_true, Int.toNat_zero, Bool.not_false, Bool.not_true, bne_self_eq_false]; done) | (simp only [decide_true, decide_false, eq_self, and_true, true_and, and_self, cond_true, cond_false, Nat.le_refl, Int.le_refl, Option.getD_some, Option.getD_none, Int.toNat_natCast, List.take_length, List.drop_zero, Nat.zero_add, List.nil_append, List.all_nil, List.append_nil, Bool.true_and, Bool.and_true, rowsA_sla, rowsA_sl, rowsA_nil, minus_zero, nat_le_cast, nat_nonneg, Option.isSome_some, Option.isSome_none, Bool.false_eq_true, false_and, and_false, if_true, if_false, implies_true, Int.toNat_zero, Bool.not_false, Bool.not_true, bne_self_eq_false]; rfl))

theorem iN (a : Nat) (h : a < 9223372036854775808) : IntKind.i64.wrap (a : Int) = (a : Int) := by rw [wrap_fits] <;> omega
theorem iadd (a b : Nat) (h : a + b < 9223372036854775808) : IntKind.i64.wrap ((a : Int) + (b : Int)) = ((a + b : Nat) : Int) := by rw [addN, iN _ h]
theorem imul (a b : Nat) (h : a * b < 9223372036854775808) : IntKind.i64.wrap ((a : Int) * (b : Int)) = ((a * b : Nat) : Int) := by rw [mulN, iN _ h]
theorem iand (a : Nat) (h : a < 9223372036854775808) : IntKind.i64.wrap (((BitVec.ofInt IntKind.i64.bits (a : Int) &&& BitVec.ofInt IntKind.i64.bits (65535 : Int)).toNat : Nat) : Int) = ((a % 65536 : Nat) : Int) := by
  have h2 : (BitVec.ofInt IntKind.i64.bits (a : Int) &&& BitVec.ofInt IntKind.i64.bits (65535 : Int)).toNat = a % 65536 := by
    rw [show (65535 : Int) = ((65535 : Nat) : Int) from rfl, BitVec.ofInt_natCast, BitVec.ofInt_natCast, BitVec.toNat_and, BitVec.toNat_ofNat, BitVec.toNat_ofNat]
    simp only [IntKind.bits]
    rw [show (65535 : Nat) % 2 ^ 64 = 2 ^ 16 - 1 from rfl, Nat.and_two_pow_sub_one_eq_mod]
    omega
  rw [h2, iN _ (by omega)]
theorem ishr (a : Nat) : (a : Int).fdiv ((2 : Int) ^ min (16 : Nat) IntKind.i64.bits) = ((a / 65536 : Nat) : Int) := by
  rw [show (2 : Int) ^ min (16 : Nat) IntKind.i64.bits = ((65536 : Nat) : Int) from by decide, Int.fdiv_eq_ediv_of_nonneg _ (by omega)]
  rfl
theorem car39 (a b c d e f g h i V : Nat) (ha : a < 4611686018427387904) (hb : b < 4611686018427387904) (hc : c < 4611686018427387904) (hd : d < 4611686018427387904) (he : e < 4611686018427387904) (hf : f < 4611686018427387904) (hg : g < 4611686018427387904) (hh : h < 4611686018427387904) (hi : i < 4611686018427387904)
    (hV : V = val9 a b c d e f g h i) : (carS a b c d e f g h i V).ok Try.prog 39 := fspec_ok (lsp := lsp0) tab_ok noSp_ok fun ds hD => by
  cases (show ds = _ from hD)
  refine ⟨20, 0 + 8, (t39 20 0 a b c d e f g h i).trans ?_⟩
  simp only [ishr]
  simp only [iadd b (a / 65536) (by omega), ishr]
  generalize hB : b + a / 65536 = B
  have h1 : B < 6917529027641081856 := by omega
  simp only [iadd c (B / 65536) (by omega), ishr]
  generalize hC : c + B / 65536 = C
  have h2 : C < 6917529027641081856 := by omega
  simp only [iadd d (C / 65536) (by omega), ishr]
  generalize hD' : d + C / 65536 = D
  have h3 : D < 6917529027641081856 := by omega
  simp only [iadd e (D / 65536) (by omega), ishr]
  generalize hE : e + D / 65536 = E
  have h4 : E < 6917529027641081856 := by omega
  simp only [iadd f (E / 65536) (by omega), ishr]
  generalize hF : f + E / 65536 = F
  have h5 : F < 6917529027641081856 := by omega
  simp only [iadd g (F / 65536) (by omega), ishr]
  generalize hG : g + F / 65536 = G
  have h6 : G < 6917529027641081856 := by omega
  simp only [iadd h (G / 65536) (by omega), ishr]
  generalize hH : h + G / 65536 = H
  have h7 : H < 6917529027641081856 := by omega
  simp only [iadd i (H / 65536) (by omega)]
  simp only [iand a (by omega), iand B (by omega), iand C (by omega), iand D (by omega), iand E (by omega), iand F (by omega), iand G (by omega), iand H (by omega)]
  unfold val9 at hV
  have e0 : V % 65536 = a % 65536 := by omega
  have v1 : V / 65536 = B + 65536 * (c + 65536 * (d + 65536 * (e + 65536 * (f + 65536 * (g + 65536 * (h + 65536 * i)))))) := by omega
  have v2 : V / 65536 / 65536 = C + 65536 * (d + 65536 * (e + 65536 * (f + 65536 * (g + 65536 * (h + 65536 * i))))) := by omega
  have v3 : V / 65536 / 65536 / 65536 = D + 65536 * (e + 65536 * (f + 65536 * (g + 65536 * (h + 65536 * i)))) := by omega
  have v4 : V / 65536 / 65536 / 65536 / 65536 = E + 65536 * (f + 65536 * (g + 65536 * (h + 65536 * i))) := by omega
  have v5 : V / 65536 / 65536 / 65536 / 65536 / 65536 = F + 65536 * (g + 65536 * (h + 65536 * i)) := by omega
  have v6 : V / 65536 / 65536 / 65536 / 65536 / 65536 / 65536 = G + 65536 * (h + 65536 * i) := by omega
  have v7 : V / 65536 / 65536 / 65536 / 65536 / 65536 / 65536 / 65536 = H + 65536 * i := by omega
  have v8 : V / 65536 / 65536 / 65536 / 65536 / 65536 / 65536 / 65536 / 65536 = i + H / 65536 := by omega
  have e1 : V / 65536 % 65536 = B % 65536 := by omega
  have e2 : V / 65536 / 65536 % 65536 = C % 65536 := by omega
  have e3 : V / 65536 / 65536 / 65536 % 65536 = D % 65536 := by omega
  have e4 : V / 65536 / 65536 / 65536 / 65536 % 65536 = E % 65536 := by omega
  have e5 : V / 65536 / 65536 / 65536 / 65536 / 65536 % 65536 = F % 65536 := by omega
  have e6 : V / 65536 / 65536 / 65536 / 65536 / 65536 / 65536 % 65536 = G % 65536 := by omega
  have e7 : V / 65536 / 65536 / 65536 / 65536 / 65536 / 65536 / 65536 % 65536 = H % 65536 := by omega
  simp only [carS, dig9, e0, e1, e2, e3, e4, e5, e6, e7, v8]

theorem ishrK (k : Nat) (hk : k ≤ 64) (a : Nat) : (a : Int).fdiv ((2 : Int) ^ min k IntKind.i64.bits) = ((a / 2 ^ k : Nat) : Int) := by
  rw [show min k IntKind.i64.bits = k from Nat.min_eq_left (by simpa [IntKind.bits] using hk), show (2 : Int) ^ k = ((2 ^ k : Nat) : Int) from (Int.natCast_pow 2 k).symm, Int.fdiv_eq_ediv_of_nonneg _ (Int.natCast_nonneg _)]
  rfl
theorem dig4 (x : Nat) : x < 18446744073709551616 → x % 65536 + 65536 * (x / 65536 % 65536) + 4294967296 * (x / 4294967296 % 65536) + 281474976710656 * (x / 281474976710656 % 65536) = x := by omega
theorem z0 (n : Nat) : (0 : Int) + (n : Int) = (n : Int) := by omega
theorem pB {a b : Nat} (ha : a < 65536) (hb : b < 65536) : a * b < 4294967296 := by
  have := Nat.mul_le_mul (Nat.le_of_lt_succ ha) (Nat.le_of_lt_succ hb)
  omega
theorem prod9 (x0 x1 x2 x3 y0 y1 y2 y3 : Nat) : (x0 + 65536 * x1 + 4294967296 * x2 + 281474976710656 * x3) * (y0 + 65536 * y1 + 4294967296 * y2 + 281474976710656 * y3) =
    val9 (x0 * y0) (x0 * y1 + x1 * y0) (x0 * y2 + x1 * y1 + x2 * y0) (x0 * y3 + x1 * y2 + x2 * y1 + x3 * y0) (x1 * y3 + x2 * y2 + x3 * y1) (x2 * y3 + x3 * y2) (x3 * y3) 0 0 := by
  simp only [val9, Nat.add_mul, Nat.mul_add, Nat.mul_assoc, Nat.mul_left_comm x1 65536, Nat.mul_left_comm x2 65536, Nat.mul_left_comm x3 65536, Nat.mul_left_comm x0 65536, Nat.mul_left_comm x1 4294967296, Nat.mul_left_comm x2 4294967296, Nat.mul_left_comm x3 4294967296, Nat.mul_left_comm x0 4294967296, Nat.mul_left_comm x1 281474976710656, Nat.mul_left_comm x2 281474976710656, Nat.mul_left_comm x3 281474976710656, Nat.mul_left_comm x0 281474976710656]
  omega
theorem prod33 (x y : Nat) (hx : x < 9223372036854775808) (hy : y < 9223372036854775808) : (prodS x y).ok Try.prog 33 := by
  have hx4 := dig4 x (by omega)
  have hy4 := dig4 y (by omega)
  have bx0 : x % 65536 < 65536 := by omega
  have bx1 : x / 65536 % 65536 < 65536 := by omega
  have bx2 : x / 4294967296 % 65536 < 65536 := by omega
  have bx3 : x / 281474976710656 % 65536 < 65536 := by omega
  have by0 : y % 65536 < 65536 := by omega
  have by1 : y / 65536 % 65536 < 65536 := by omega
  have by2 : y / 4294967296 % 65536 < 65536 := by omega
  have by3 : y / 281474976710656 % 65536 < 65536 := by omega
  have ex0 := iand x (by omega)
  have ex1 := iand (x / 65536) (by omega)
  have ex2 := iand (x / 4294967296) (by omega)
  have ex3 := iand (x / 281474976710656) (by omega)
  have ey0 := iand y (by omega)
  have ey1 := iand (y / 65536) (by omega)
  have ey2 := iand (y / 4294967296) (by omega)
  have ey3 := iand (y / 281474976710656) (by omega)
  have sx1 := ishrK 16 (by omega) x
  have sx2 := ishrK 32 (by omega) x
  have sx3 := ishrK 48 (by omega) x
  have sy0 := ishrK 0 (by omega) y
  have sy1 := ishrK 16 (by omega) y
  have sy2 := ishrK 32 (by omega) y
  have sy3 := ishrK 48 (by omega) y
  rw [show (2 : Nat) ^ 16 = 65536 from rfl] at sx1 sy1
  rw [show (2 : Nat) ^ 32 = 4294967296 from rfl] at sx2 sy2
  rw [show (2 : Nat) ^ 48 = 281474976710656 from rfl] at sx3 sy3
  rw [show (2 : Nat) ^ 0 = 1 from rfl, Nat.div_one] at sy0
  have w0 : (IntKind.u64.wrap (IntKind.i64.wrap (0 : Int))).toNat = 0 := by decide
  have w1 : (IntKind.u64.wrap (IntKind.i64.wrap ((16 : Int) * IntKind.i64.wrap (1 : Int)))).toNat = 16 := by decide
  have w2 : (IntKind.u64.wrap (IntKind.i64.wrap ((16 : Int) * IntKind.i64.wrap (IntKind.i64.wrap (1 : Int) + (1 : Int))))).toNat = 32 := by decide
  have w3 : (IntKind.u64.wrap (IntKind.i64.wrap ((16 : Int) * IntKind.i64.wrap (IntKind.i64.wrap (IntKind.i64.wrap (1 : Int) + (1 : Int)) + (1 : Int))))).toNat = 48 := by decide
  have hP := prod9 (x % 65536) (x / 65536 % 65536) (x / 4294967296 % 65536) (x / 281474976710656 % 65536) (y % 65536) (y / 65536 % 65536) (y / 4294967296 % 65536) (y / 281474976710656 % 65536)
  rw [hx4, hy4] at hP
  have q00 := pB bx0 by0
  have q01 := pB bx0 by1
  have q02 := pB bx0 by2
  have q03 := pB bx0 by3
  have q10 := pB bx1 by0
  have q11 := pB bx1 by1
  have q12 := pB bx1 by2
  have q13 := pB bx1 by3
  have q20 := pB bx2 by0
  have q21 := pB bx2 by1
  have q22 := pB bx2 by2
  have q23 := pB bx2 by3
  have q30 := pB bx3 by0
  have q31 := pB bx3 by1
  have q32 := pB bx3 by2
  have q33 := pB bx3 by3
  refine fspec_ok (lsp := lsp0) tab_ok (spAdd_ok (car39 _ _ _ _ _ _ _ _ _ (x * y) ?_ ?_ ?_ ?_ ?_ ?_ ?_ ?_ ?_ hP) noSp_ok) fun ds hD => ?_
  rotate_right
  · cases (show ds = _ from hD)
    refine ⟨20, 0 + 8, (t33 20 0 _ _ _ _ _ _ _ _ _ (x * y) x y).trans ?_⟩
    refine (need_pos ?_).trans rfl
    simp only [w0, w1, w2, w3, sx1, sx2, sx3, sy0, sy1, sy2, sy3, ex0, ex1, ex2, ex3, ey0, ey1, ey2, ey3]
    generalize x % 65536 = x0 at *
    generalize x / 65536 % 65536 = x1 at *
    generalize x / 4294967296 % 65536 = x2 at *
    generalize x / 281474976710656 % 65536 = x3 at *
    generalize y % 65536 = y0 at *
    generalize y / 65536 % 65536 = y1 at *
    generalize y / 4294967296 % 65536 = y2 at *
    generalize y / 281474976710656 % 65536 = y3 at *
    simp only [imul x0 y0 (by omega), imul x0 y1 (by omega), imul x0 y2 (by omega), imul x0 y3 (by omega), imul x1 y0 (by omega), imul x1 y1 (by omega), imul x1 y2 (by omega), imul x1 y3 (by omega), imul x2 y0 (by omega), imul x2 y1 (by omega), imul x2 y2 (by omega), imul x2 y3 (by omega), imul x3 y0 (by omega), imul x3 y1 (by omega), imul x3 y2 (by omega), imul x3 y3 (by omega), z0,
      iN (x0 * y0) (by omega), iN (x0 * y1) (by omega), iN (x0 * y2) (by omega), iN (x0 * y3) (by omega), iN (x1 * y3) (by omega), iN (x2 * y3) (by omega), iN (x3 * y3) (by omega),
      iadd (x0 * y1) (x1 * y0) (by omega), iadd (x0 * y2) (x1 * y1) (by omega), iadd (x0 * y2 + x1 * y1) (x2 * y0) (by omega), iadd (x0 * y3) (x1 * y2) (by omega), iadd (x0 * y3 + x1 * y2) (x2 * y1) (by omega), iadd (x0 * y3 + x1 * y2 + x2 * y1) (x3 * y0) (by omega), iadd (x1 * y3) (x2 * y2) (by omega), iadd (x1 * y3 + x2 * y2) (x3 * y1) (by omega), iadd (x2 * y3) (x3 * y2) (by omega)]
    rfl
  all_goals omega

def is64' (n : Nat) : Prop := n ≤ 10000
theorem tim34 (p n : Nat) (hp : p < 85070591730234615847396907784232501250) (hn : n ≤ 10000) : (timS p n).ok Try.prog 34 := by
  have hP : p * n = val9 (p % 65536 * n) (p / 65536 % 65536 * n) (p / 65536 / 65536 % 65536 * n) (p / 65536 / 65536 / 65536 % 65536 * n) (p / 65536 / 65536 / 65536 / 65536 % 65536 * n) (p / 65536 / 65536 / 65536 / 65536 / 65536 % 65536 * n) (p / 65536 / 65536 / 65536 / 65536 / 65536 / 65536 % 65536 * n) (p / 65536 / 65536 / 65536 / 65536 / 65536 / 65536 / 65536 % 65536 * n) (p / 65536 / 65536 / 65536 / 65536 / 65536 / 65536 / 65536 / 65536 * n) := by
    have hd : p = val9 (p % 65536) (p / 65536 % 65536) (p / 65536 / 65536 % 65536) (p / 65536 / 65536 / 65536 % 65536) (p / 65536 / 65536 / 65536 / 65536 % 65536) (p / 65536 / 65536 / 65536 / 65536 / 65536 % 65536) (p / 65536 / 65536 / 65536 / 65536 / 65536 / 65536 % 65536) (p / 65536 / 65536 / 65536 / 65536 / 65536 / 65536 / 65536 % 65536) (p / 65536 / 65536 / 65536 / 65536 / 65536 / 65536 / 65536 / 65536) := by
      unfold val9
      omega
    conv => lhs; rw [hd]
    simp only [val9, Nat.add_mul, Nat.mul_assoc]
  have b0 := Nat.mul_le_mul (show p % 65536 ≤ 65535 by omega) hn
  have b1 := Nat.mul_le_mul (show p / 65536 % 65536 ≤ 65535 by omega) hn
  have b2 := Nat.mul_le_mul (show p / 65536 / 65536 % 65536 ≤ 65535 by omega) hn
  have b3 := Nat.mul_le_mul (show p / 65536 / 65536 / 65536 % 65536 ≤ 65535 by omega) hn
  have b4 := Nat.mul_le_mul (show p / 65536 / 65536 / 65536 / 65536 % 65536 ≤ 65535 by omega) hn
  have b5 := Nat.mul_le_mul (show p / 65536 / 65536 / 65536 / 65536 / 65536 % 65536 ≤ 65535 by omega) hn
  have b6 := Nat.mul_le_mul (show p / 65536 / 65536 / 65536 / 65536 / 65536 / 65536 % 65536 ≤ 65535 by omega) hn
  have b7 := Nat.mul_le_mul (show p / 65536 / 65536 / 65536 / 65536 / 65536 / 65536 / 65536 % 65536 ≤ 65535 by omega) hn
  have b8 := Nat.mul_le_mul (show p / 65536 / 65536 / 65536 / 65536 / 65536 / 65536 / 65536 / 65536 ≤ 65535 by omega) hn
  refine fspec_ok (lsp := lsp0) tab_ok (spAdd_ok (car39 _ _ _ _ _ _ _ _ _ (p * n) ?_ ?_ ?_ ?_ ?_ ?_ ?_ ?_ ?_ hP) noSp_ok) fun ds hD => ?_
  rotate_right
  · cases (show ds = _ from hD)
    refine ⟨20, 0 + 8, (t34 20 0 _ _ _ _ _ _ _ _ _ (p * n) p n).trans ?_⟩
    refine (need_pos ?_).trans rfl
    simp only [imul (p % 65536) n (by omega), imul (p / 65536 % 65536) n (by omega), imul (p / 65536 / 65536 % 65536) n (by omega), imul (p / 65536 / 65536 / 65536 % 65536) n (by omega), imul (p / 65536 / 65536 / 65536 / 65536 % 65536) n (by omega), imul (p / 65536 / 65536 / 65536 / 65536 / 65536 % 65536) n (by omega), imul (p / 65536 / 65536 / 65536 / 65536 / 65536 / 65536 % 65536) n (by omega), imul (p / 65536 / 65536 / 65536 / 65536 / 65536 / 65536 / 65536 % 65536) n (by omega), imul (p / 65536 / 65536 / 65536 / 65536 / 65536 / 65536 / 65536 / 65536) n (by omega)]
    rfl
  all_goals omega
theorem ishl (r : Nat) (hr : r < 10000) (d : Nat) (hd : d < 65536) : IntKind.i64.wrap (IntKind.i64.wrap ((r : Int) * (2 : Int) ^ min (16 : Nat) IntKind.i64.bits) + (d : Int)) = ((r * 65536 + d : Nat) : Int) := by
  rw [show (2 : Int) ^ min (16 : Nat) IntKind.i64.bits = ((65536 : Nat) : Int) from by decide, imul _ _ (by omega), iadd _ _ (by omega)]
theorem itd (n : Nat) : (n : Int).tdiv (10000 : Int) = ((n / 10000 : Nat) : Int) := rfl
theorem itm (n : Nat) : (n : Int).tmod (10000 : Int) = ((n % 10000 : Nat) : Int) := rfl
theorem bne0 (n : Nat) : ((n : Int) != (0 : Int)) = decide (n ≠ 0) := by
  by_cases h : n = 0
  · subst h; rfl
  · rw [decide_eq_true h]
    simp only [bne_iff_ne, ne_eq]
    omega
theorem ior (a b k : Nat) (hb : b < 2 ^ k) (hs : 2 ^ k * a + b < 9223372036854775808) : IntKind.i64.wrap (((BitVec.ofInt IntKind.i64.bits ((2 ^ k * a : Nat) : Int) ||| BitVec.ofInt IntKind.i64.bits (b : Int)).toNat : Nat) : Int) = ((2 ^ k * a + b : Nat) : Int) := by
  have h2 : (BitVec.ofInt IntKind.i64.bits ((2 ^ k * a : Nat) : Int) ||| BitVec.ofInt IntKind.i64.bits (b : Int)).toNat = 2 ^ k * a + b := by
    rw [BitVec.ofInt_natCast, BitVec.ofInt_natCast, BitVec.toNat_or, BitVec.toNat_ofNat, BitVec.toNat_ofNat]
    simp only [IntKind.bits]
    rw [Nat.mod_eq_of_lt (by omega), Nat.mod_eq_of_lt (by omega), Nat.two_pow_add_eq_or_of_lt hb]
  rw [h2, iN _ (by omega)]
theorem or4 (q3 q2 q1 q0 : Nat) (h3 : q3 < 32768) (h2 : q2 < 65536) (h1 : q1 < 65536) (h0 : q0 < 65536) :
    IntKind.i64.wrap (((BitVec.ofInt IntKind.i64.bits (IntKind.i64.wrap (((BitVec.ofInt IntKind.i64.bits (IntKind.i64.wrap (((BitVec.ofInt IntKind.i64.bits (IntKind.i64.wrap ((q3 : Int) * (2 : Int) ^ min (48 : Nat) IntKind.i64.bits)) |||
      BitVec.ofInt IntKind.i64.bits (IntKind.i64.wrap ((q2 : Int) * (2 : Int) ^ min (32 : Nat) IntKind.i64.bits))).toNat : Nat) : Int)) ||| BitVec.ofInt IntKind.i64.bits (IntKind.i64.wrap ((q1 : Int) * (2 : Int) ^ min (16 : Nat) IntKind.i64.bits))).toNat : Nat) : Int)) ||| BitVec.ofInt IntKind.i64.bits (q0 : Int)).toNat : Nat) : Int) =
    ((q3 * 281474976710656 + q2 * 4294967296 + q1 * 65536 + q0 : Nat) : Int) := by
  rw [show (2 : Int) ^ min (48 : Nat) IntKind.i64.bits = ((281474976710656 : Nat) : Int) from by decide, show (2 : Int) ^ min (32 : Nat) IntKind.i64.bits = ((4294967296 : Nat) : Int) from by decide, show (2 : Int) ^ min (16 : Nat) IntKind.i64.bits = ((65536 : Nat) : Int) from by decide,
    imul _ _ (by omega), imul _ _ (by omega), imul _ _ (by omega)]
  have e1 := ior q3 (q2 * 4294967296) 48 (by omega) (by omega)
  rw [show 2 ^ 48 * q3 = q3 * 281474976710656 by omega] at e1
  rw [e1]
  have e2 := ior (q3 * 65536 + q2) (q1 * 65536) 32 (by omega) (by omega)
  rw [show 2 ^ 32 * (q3 * 65536 + q2) = q3 * 281474976710656 + q2 * 4294967296 by omega] at e2
  rw [e2]
  have e3 := ior (q3 * 4294967296 + q2 * 65536 + q1) q0 16 (by omega) (by omega)
  rw [show 2 ^ 16 * (q3 * 4294967296 + q2 * 65536 + q1) = q3 * 281474976710656 + q2 * 4294967296 + q1 * 65536 by omega] at e3
  rw [e3]
set_option maxRecDepth 4000 in
set_option maxHeartbeats 1000000 in
theorem by35 (p : Nat) (hp : p < 22300745198530623141535718272648361505980416) : (byS p).ok Try.prog 35 := fspec_ok (lsp := lsp0) tab_ok noSp_ok fun ds hD => by
  cases (show ds = _ from hD)
  refine ⟨20, 0 + 8, (t35 20 0 _ _ _ _ _ _ _ _ _).trans ?_⟩
  have hd : p = val9 (p % 65536) (p / 65536 % 65536) (p / 65536 / 65536 % 65536) (p / 65536 / 65536 / 65536 % 65536) (p / 65536 / 65536 / 65536 / 65536 % 65536) (p / 65536 / 65536 / 65536 / 65536 / 65536 % 65536) (p / 65536 / 65536 / 65536 / 65536 / 65536 / 65536 % 65536) (p / 65536 / 65536 / 65536 / 65536 / 65536 / 65536 / 65536 % 65536) (p / 65536 / 65536 / 65536 / 65536 / 65536 / 65536 / 65536 / 65536) := by
    unfold val9
    omega
  simp only [byS]
  have b0 : p % 65536 < 65536 := by omega
  have b1 : p / 65536 % 65536 < 65536 := by omega
  have b2 : p / 65536 / 65536 % 65536 < 65536 := by omega
  have b3 : p / 65536 / 65536 / 65536 % 65536 < 65536 := by omega
  have b4 : p / 65536 / 65536 / 65536 / 65536 % 65536 < 65536 := by omega
  have b5 : p / 65536 / 65536 / 65536 / 65536 / 65536 % 65536 < 65536 := by omega
  have b6 : p / 65536 / 65536 / 65536 / 65536 / 65536 / 65536 % 65536 < 65536 := by omega
  have b7 : p / 65536 / 65536 / 65536 / 65536 / 65536 / 65536 / 65536 % 65536 < 65536 := by omega
  have b8 : p / 65536 / 65536 / 65536 / 65536 / 65536 / 65536 / 65536 / 65536 < 65536 := by omega
  generalize p % 65536 = l0 at *
  generalize p / 65536 % 65536 = l1 at *
  generalize p / 65536 / 65536 % 65536 = l2 at *
  generalize p / 65536 / 65536 / 65536 % 65536 = l3 at *
  generalize p / 65536 / 65536 / 65536 / 65536 % 65536 = l4 at *
  generalize p / 65536 / 65536 / 65536 / 65536 / 65536 % 65536 = l5 at *
  generalize p / 65536 / 65536 / 65536 / 65536 / 65536 / 65536 % 65536 = l6 at *
  generalize p / 65536 / 65536 / 65536 / 65536 / 65536 / 65536 / 65536 % 65536 = l7 at *
  generalize p / 65536 / 65536 / 65536 / 65536 / 65536 / 65536 / 65536 / 65536 = l8 at *
  rw [show (0 : Int) * (2 : Int) ^ min (16 : Nat) IntKind.i64.bits = ((0 : Nat) : Int) * (2 : Int) ^ min (16 : Nat) IntKind.i64.bits from rfl]
  simp only [ishl 0 (by omega) l8 b8, itd, itm]
  rw [show 0 * 65536 + l8 = l8 by omega]
  have r8 : l8 % 10000 < 10000 := by omega
  have s8 : l8 = 10000 * (l8 / 10000) + l8 % 10000 := by omega
  have u8 : l8 / 10000 < 65536 := by omega
  generalize l8 % 10000 = R8 at *
  generalize l8 / 10000 = Q8 at *
  simp only [ishl R8 r8 l7 b7, itd, itm]
  have r7 : (R8 * 65536 + l7) % 10000 < 10000 := Nat.mod_lt _ (by omega)
  have s7 : R8 * 65536 + l7 = 10000 * ((R8 * 65536 + l7) / 10000) + (R8 * 65536 + l7) % 10000 := (Nat.div_add_mod _ _).symm
  have u7 : (R8 * 65536 + l7) / 10000 < 65536 := by omega
  generalize (R8 * 65536 + l7) % 10000 = R7 at *
  generalize (R8 * 65536 + l7) / 10000 = Q7 at *
  simp only [ishl R7 r7 l6 b6, itd, itm]
  have r6 : (R7 * 65536 + l6) % 10000 < 10000 := Nat.mod_lt _ (by omega)
  have s6 : R7 * 65536 + l6 = 10000 * ((R7 * 65536 + l6) / 10000) + (R7 * 65536 + l6) % 10000 := (Nat.div_add_mod _ _).symm
  have u6 : (R7 * 65536 + l6) / 10000 < 65536 := by omega
  generalize (R7 * 65536 + l6) % 10000 = R6 at *
  generalize (R7 * 65536 + l6) / 10000 = Q6 at *
  simp only [ishl R6 r6 l5 b5, itd, itm]
  have r5 : (R6 * 65536 + l5) % 10000 < 10000 := Nat.mod_lt _ (by omega)
  have s5 : R6 * 65536 + l5 = 10000 * ((R6 * 65536 + l5) / 10000) + (R6 * 65536 + l5) % 10000 := (Nat.div_add_mod _ _).symm
  have u5 : (R6 * 65536 + l5) / 10000 < 65536 := by omega
  generalize (R6 * 65536 + l5) % 10000 = R5 at *
  generalize (R6 * 65536 + l5) / 10000 = Q5 at *
  simp only [ishl R5 r5 l4 b4, itd, itm]
  have r4 : (R5 * 65536 + l4) % 10000 < 10000 := Nat.mod_lt _ (by omega)
  have s4 : R5 * 65536 + l4 = 10000 * ((R5 * 65536 + l4) / 10000) + (R5 * 65536 + l4) % 10000 := (Nat.div_add_mod _ _).symm
  have u4 : (R5 * 65536 + l4) / 10000 < 65536 := by omega
  generalize (R5 * 65536 + l4) % 10000 = R4 at *
  generalize (R5 * 65536 + l4) / 10000 = Q4 at *
  simp only [ishl R4 r4 l3 b3, itd, itm]
  have r3 : (R4 * 65536 + l3) % 10000 < 10000 := Nat.mod_lt _ (by omega)
  have s3 : R4 * 65536 + l3 = 10000 * ((R4 * 65536 + l3) / 10000) + (R4 * 65536 + l3) % 10000 := (Nat.div_add_mod _ _).symm
  have u3 : (R4 * 65536 + l3) / 10000 < 65536 := by omega
  generalize (R4 * 65536 + l3) % 10000 = R3 at *
  generalize (R4 * 65536 + l3) / 10000 = Q3 at *
  simp only [ishl R3 r3 l2 b2, itd, itm]
  have r2 : (R3 * 65536 + l2) % 10000 < 10000 := Nat.mod_lt _ (by omega)
  have s2 : R3 * 65536 + l2 = 10000 * ((R3 * 65536 + l2) / 10000) + (R3 * 65536 + l2) % 10000 := (Nat.div_add_mod _ _).symm
  have u2 : (R3 * 65536 + l2) / 10000 < 65536 := by omega
  generalize (R3 * 65536 + l2) % 10000 = R2 at *
  generalize (R3 * 65536 + l2) / 10000 = Q2 at *
  simp only [ishl R2 r2 l1 b1, itd, itm]
  have r1 : (R2 * 65536 + l1) % 10000 < 10000 := Nat.mod_lt _ (by omega)
  have s1 : R2 * 65536 + l1 = 10000 * ((R2 * 65536 + l1) / 10000) + (R2 * 65536 + l1) % 10000 := (Nat.div_add_mod _ _).symm
  have u1 : (R2 * 65536 + l1) / 10000 < 65536 := by omega
  generalize (R2 * 65536 + l1) % 10000 = R1 at *
  generalize (R2 * 65536 + l1) / 10000 = Q1 at *
  simp only [ishl R1 r1 l0 b0, itd, itm]
  have r0 : (R1 * 65536 + l0) % 10000 < 10000 := Nat.mod_lt _ (by omega)
  have s0 : R1 * 65536 + l0 = 10000 * ((R1 * 65536 + l0) / 10000) + (R1 * 65536 + l0) % 10000 := (Nat.div_add_mod _ _).symm
  have u0 : (R1 * 65536 + l0) / 10000 < 65536 := by omega
  generalize (R1 * 65536 + l0) % 10000 = R0 at *
  generalize (R1 * 65536 + l0) / 10000 = Q0 at *
  unfold val9 at hd
  have hq : p / 10000 = Q0 + 65536 * (Q1 + 65536 * (Q2 + 65536 * (Q3 + 65536 * (Q4 + 65536 * (Q5 + 65536 * (Q6 + 65536 * (Q7 + 65536 * Q8))))))) := by omega
  rw [hq]
  clear hq hd s0 s1 s2 s3 s4 s5 s6 s7 s8 hp
  simp only [iN Q8 (by omega), iN Q7 (by omega), iN Q6 (by omega), iN Q5 (by omega), iN Q4 (by omega), iN Q3 (by omega), iN Q2 (by omega), iN Q1 (by omega), iN Q0 (by omega), bne0]
  have no : ∀ X : Nat, ¬ X < 9223372036854775808 → (some (DV.tuple [.int .i64 (0 : Int), .bool false])) = some (DV.tuple [.int .i64 (cond (decide (X < 9223372036854775808)) (X : Int) 0), .bool (decide (X < 9223372036854775808))]) := fun X hX => by
    rw [decide_eq_false hX]
    rfl
  refine cond_of (fun h => no _ (by have := of_decide_eq_true h; omega)) fun h4 => ?_
  refine cond_of (fun h => no _ (by have := of_decide_eq_true h; omega)) fun h5 => ?_
  refine cond_of (fun h => no _ (by have := of_decide_eq_true h; omega)) fun h6 => ?_
  refine cond_of (fun h => no _ (by have := of_decide_eq_true h; omega)) fun h7 => ?_
  refine cond_of (fun h => no _ (by have := of_decide_eq_true h; omega)) fun h8 => ?_
  refine cond_of (fun h => no _ (by have := of_decide_eq_true h; omega)) fun h3 => ?_
  have h3' : Q3 < 32768 := by
    have := of_decide_eq_false h3
    omega
  have h4' : Q4 = 0 := Decidable.not_not.1 (of_decide_eq_false h4)
  have h5' : Q5 = 0 := Decidable.not_not.1 (of_decide_eq_false h5)
  have h6' : Q6 = 0 := Decidable.not_not.1 (of_decide_eq_false h6)
  have h7' : Q7 = 0 := Decidable.not_not.1 (of_decide_eq_false h7)
  have h8' : Q8 = 0 := Decidable.not_not.1 (of_decide_eq_false h8)
  have hX : Q0 + 65536 * (Q1 + 65536 * (Q2 + 65536 * (Q3 + 65536 * (Q4 + 65536 * (Q5 + 65536 * (Q6 + 65536 * (Q7 + 65536 * Q8))))))) = Q3 * 281474976710656 + Q2 * 4294967296 + Q1 * 65536 + Q0 := by
    subst h4' h5' h6' h7' h8'
    omega
  have hY : Q3 * 281474976710656 + Q2 * 4294967296 + Q1 * 65536 + Q0 < 9223372036854775808 := by omega
  rw [hX, decide_eq_true hY, cond_true]
  exact congrArg (fun z => some (DV.tuple [.int .i64 z, .bool true])) (or4 Q3 Q2 Q1 Q0 h3' u2 u1 u0)
end Go.Proofs.Ytianifckopijjaa
