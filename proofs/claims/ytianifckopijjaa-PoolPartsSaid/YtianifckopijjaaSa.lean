/- What is known of the functions of sums and products, by their runs. No condition. -/
import Derived.Test.YtianifckopijjaaCode
import Derived.Test.YtianifckopijjaaVmR
import Derived.Lib.Mul64
import Derived.Laws.Externs
namespace Go.Proofs.Ytianifckopijjaa
open Go Go.Proofs Go.RowKit Vm
set_option linter.unusedVariables false
set_option linter.unusedSimpArgs false
def lsp0 : Nat → Option LSpec := fun _ => none
def mulS : FSpec where
  D ds := ∃ x y : Nat, ds = [.int .u64 x, .int .u64 y] ∧ x < 18446744073709551616 ∧ y < 18446744073709551616
  val ds := match ds with | [.int _ x, .int _ y] => some (.tuple [.int .u64 (x * y / 18446744073709551616), .int .u64 (x * y % 18446744073709551616)]) | _ => none
def addS : FSpec where
  D ds := ∃ x y : Nat, ds = [.int .u64 x, .int .u64 y, .int .u64 0] ∧ x < 18446744073709551616 ∧ y < 18446744073709551616
  val ds := match ds with | [.int _ x, .int _ y, .int _ _] => some (.tuple [.int .u64 ((x + y) % 18446744073709551616), .int .u64 ((x + y) / 18446744073709551616)]) | _ => none
def divS : FSpec where
  D ds := ∃ x y : Nat, ds = [.int .u64 0, .int .u64 x, .int .u64 y] ∧ x < 18446744073709551616 ∧ 0 < y ∧ y < 18446744073709551616
  val ds := match ds with | [.int _ _, .int _ x, .int _ y] => some (.tuple [.int .u64 (x / y), .int .u64 (x % y)]) | _ => none
noncomputable def sp1 : FuncId → Option FSpec := spAdd 31 mulS (spAdd 28 addS (spAdd 32 divS noSp))
theorem t31 (L n : Nat) (a c : Nat) : FK tab noSp lsp0 L (n+8) 31 [.int .u64 a, .int .u64 c] =
   (some
 (DV.tuple
 [DV.int IntKind.u64
 (IntKind.u64.wrap
 (IntKind.u64.wrap
 (IntKind.u64.wrap
 ((↑a : Int).fdiv ((2 : Int) ^ min (32 : Nat) IntKind.u64.bits) * (↑c : Int).fdiv ((2 : Int) ^ min (32 : Nat) IntKind.u64.bits)) +
 (IntKind.u64.wrap
 (IntKind.u64.wrap
 ((↑a : Int).fdiv ((2 : Int) ^ min (32 : Nat) IntKind.u64.bits) *
 IntKind.u64.wrap (↑(BitVec.ofInt IntKind.u64.bits (↑c : Int) &&& BitVec.ofInt IntKind.u64.bits (4294967295 : Int)).toNat : Int)) +
 (IntKind.u64.wrap
 (IntKind.u64.wrap
 (↑(BitVec.ofInt IntKind.u64.bits (↑a : Int) &&& BitVec.ofInt IntKind.u64.bits (4294967295 : Int)).toNat : Int) *
 IntKind.u64.wrap
 (↑(BitVec.ofInt IntKind.u64.bits (↑c : Int) &&& BitVec.ofInt IntKind.u64.bits (4294967295 : Int)).toNat : Int))).fdiv
 ((2 : Int) ^ min (32 : Nat) IntKind.u64.bits))).fdiv
 ((2 : Int) ^ min (32 : Nat) IntKind.u64.bits)) +
 (IntKind.u64.wrap
 (IntKind.u64.wrap
 (↑(BitVec.ofInt IntKind.u64.bits
 (IntKind.u64.wrap
 (IntKind.u64.wrap
 ((↑a : Int).fdiv ((2 : Int) ^ min (32 : Nat) IntKind.u64.bits) *
 IntKind.u64.wrap
 (↑(BitVec.ofInt IntKind.u64.bits (↑c : Int) &&& BitVec.ofInt IntKind.u64.bits (4294967295 : Int)).toNat : Int)) +
 (IntKind.u64.wrap
 (IntKind.u64.wrap
 (↑(BitVec.ofInt IntKind.u64.bits (↑a : Int) &&& BitVec.ofInt IntKind.u64.bits (4294967295 : Int)).toNat : Int) *
 IntKind.u64.wrap
 (↑(BitVec.ofInt IntKind.u64.bits (↑c : Int) &&& BitVec.ofInt IntKind.u64.bits (4294967295 : Int)).toNat :
 Int))).fdiv
 ((2 : Int) ^ min (32 : Nat) IntKind.u64.bits))) &&&
 BitVec.ofInt IntKind.u64.bits (4294967295 : Int)).toNat :
 Int) +
 IntKind.u64.wrap
 (IntKind.u64.wrap (↑(BitVec.ofInt IntKind.u64.bits (↑a : Int) &&& BitVec.ofInt IntKind.u64.bits (4294967295 : Int)).toNat : Int) *
 (↑c : Int).fdiv ((2 : Int) ^ min (32 : Nat) IntKind.u64.bits)))).fdiv
 ((2 : Int) ^ min (32 : Nat) IntKind.u64.bits))), DV.int IntKind.u64 (IntKind.u64.wrap ((↑a : Int) * (↑c : Int)))])) :=
  (show FK tab noSp lsp0 L (n+8) 31 [.int .u64 a, .int .u64 c] =
 (some (.tuple [(.int .u64 (IntKind.u64.wrap (IntKind.u64.wrap (IntKind.u64.wrap ((↑a : Int).fdiv ((2 : Int) ^ min (32 : Nat) IntKind.u64.bits) * (↑c : Int).fdiv ((2 : Int) ^ min (32 : Nat) IntKind.u64.bits)) + (IntKind.u64.wrap (IntKind.u64.wrap ((↑a : Int).fdiv ((2 : Int) ^ min (32 : Nat) IntKind.u64.bits) * IntKind.u64.wrap (↑(BitVec.ofInt IntKind.u64.bits (↑c : Int) &&& BitVec.ofInt IntKind.u64.bits (4294967295 : Int)).toNat : Int)) + (IntKind.u64.wrap (IntKind.u64.wrap (↑(BitVec.ofInt IntKind.u64.bits (↑a : Int) &&& BitVec.ofInt IntKind.u64.bits (4294967295 : Int)).toNat : Int) * IntKind.u64.wrap (↑(BitVec.ofInt IntKind.u64.bits (↑c : Int) &&& BitVec.ofInt IntKind.u64.bits (4294967295 : Int)).toNat : Int))).fdiv ((2 : Int) ^ min (32 : Nat) IntKind.u64.bits))).fdiv ((2 : Int) ^ min (32 : Nat) IntKind.u64.bits)) + (IntKind.u64.wrap (IntKind.u64.wrap (↑(BitVec.ofInt IntKind.u64.bits (IntKind.u64.wrap (IntKind.u64.wrap ((↑a : Int).fdiv ((2 : Int) ^ min (32 : Nat) IntKind.u64.bits) * IntKind.u64.wrap (↑(BitVec.ofInt IntKind.u64.bits (↑c : Int) &&& BitVec.ofInt IntKind.u64.bits (4294967295 : Int)).toNat : Int)) + (IntKind.u64.wrap (IntKind.u64.wrap (↑(BitVec.ofInt IntKind.u64.bits (↑a : Int) &&& BitVec.ofInt IntKind.u64.bits (4294967295 : Int)).toNat : Int) * IntKind.u64.wrap (↑(BitVec.ofInt IntKind.u64.bits (↑c : Int) &&& BitVec.ofInt IntKind.u64.bits (4294967295 : Int)).toNat : Int))).fdiv ((2 : Int) ^ min (32 : Nat) IntKind.u64.bits))) &&& BitVec.ofInt IntKind.u64.bits (4294967295 : Int)).toNat : Int) + IntKind.u64.wrap (IntKind.u64.wrap (↑(BitVec.ofInt IntKind.u64.bits (↑a : Int) &&& BitVec.ofInt IntKind.u64.bits (4294967295 : Int)).toNat : Int) * (↑c : Int).fdiv ((2 : Int) ^ min (32 : Nat) IntKind.u64.bits)))).fdiv ((2 : Int) ^ min (32 : Nat) IntKind.u64.bits)))), (.int .u64 (IntKind.u64.wrap ((↑a : Int) * (↑c : Int))))])) from by kernel_rfl).trans (by first | rfl | (simp only [decide_true, decide_false, eq_self, and_true, true_and, and_self, cond_true, cond_false, Nat.le_refl, Int.le_refl, Option.getD_some, Option.getD_none, Int.toNat_natCast, List.take_length, List.drop_zero, Nat.zero_add, List.nil_append, List.all_nil, List.append_nil, Bool.true_and, Bool.and_true, rowsA_sla, rowsA_sl, rowsA_nil, minus_zero, nat_le_cast, nat_nonneg, Option.isSome_some, Option.isSome_none, Bool.false_eq_true, false_and, and_false, if_true, if_false, implies_true, Int.toNat_zero, Bool.not_false, Bool.not_true, bne_self_eq_false]; done) | (simp only [decide_true, decide_false, eq_self, and_true, true_and, and_self, cond_true, cond_false, Nat.le_refl, Int.le_refl, Option.getD_some, Option.getD_none, Int.toNat_natCast, List.take_length, List.drop_zero, Nat.zero_add, List.nil_append, List.all_nil, List.append_nil, Bool.true_and, Bool.and_true, rowsA_sla, rowsA_sl, rowsA_nil, minus_zero, nat_le_cast, nat_nonneg, Option.isSome_some, Option.isSome_none, Bool.false_eq_true, false_and, and_false, if_true, if_false, implies_true, Int.toNat_zero, Bool.not_false, Bool.not_true, bne_self_eq_false]; rfl))
theorem t32 (L n : Nat) (a c : Nat) : FK tab noSp lsp0 L (n+8) 32 [.int .u64 0, .int .u64 a, .int .u64 c] =
   (bif (↑c : Int) == (0 : Int) then none
 else
 bif decide ((↑c : Int) ≤ (0 : Int)) then none
 else
 bif decide ((↑c : Int) = (0 : Int)) then none
 else
 bif decide ((↑c : Int) = (0 : Int)) then none
 else some (DV.tuple [DV.int IntKind.u64 (IntKind.u64.wrap ((↑a : Int).tdiv (↑c : Int))), DV.int IntKind.u64 ((↑a : Int).tmod (↑c : Int))])) :=
  (show FK tab noSp lsp0 L (n+8) 32 [.int .u64 0, .int .u64 a, .int .u64 c] =
 (cond ((↑c : Int) == (0 : Int))
 none
 (cond (decide ((↑c : Int) ≤ (0 : Int)))
 none
 (cond (decide ((↑c : Int) = (0 : Int)))
 none
 (cond (decide ((↑c : Int) = (0 : Int)))
 none
 (some (.tuple [(.int .u64 (IntKind.u64.wrap ((↑a : Int).tdiv (↑c : Int)))), (.int .u64 ((↑a : Int).tmod (↑c : Int)))])))))) from by kernel_rfl).trans (by first | rfl | (simp only [decide_true, decide_false, eq_self, and_true, true_and, and_self, cond_true, cond_false, Nat.le_refl, Int.le_refl, Option.getD_some, Option.getD_none, Int.toNat_natCast, List.take_length, List.drop_zero, Nat.zero_add, List.nil_append, List.all_nil, List.append_nil, Bool.true_and, Bool.and_true, rowsA_sla, rowsA_sl, rowsA_nil, minus_zero, nat_le_cast, nat_nonneg, Option.isSome_some, Option.isSome_none, Bool.false_eq_true, false_and, and_false, if_true, if_false, implies_true, Int.toNat_zero, Bool.not_false, Bool.not_true, bne_self_eq_false]; done) | (simp only [decide_true, decide_false, eq_self, and_true, true_and, and_self, cond_true, cond_false, Nat.le_refl, Int.le_refl, Option.getD_some, Option.getD_none, Int.toNat_natCast, List.take_length, List.drop_zero, Nat.zero_add, List.nil_append, List.all_nil, List.append_nil, Bool.true_and, Bool.and_true, rowsA_sla, rowsA_sl, rowsA_nil, minus_zero, nat_le_cast, nat_nonneg, Option.isSome_some, Option.isSome_none, Bool.false_eq_true, false_and, and_false, if_true, if_false, implies_true, Int.toNat_zero, Bool.not_false, Bool.not_true, bne_self_eq_false]; rfl))
theorem t17 (L n : Nat) (a b c : Int) : FK tab sp1 lsp0 L (n+8) 17 [.int .i64 a, .int .i64 b, .int .i64 c] =
   (bif
 bif bif decide (a < (0 : Int)) then true else decide (b < (0 : Int)) then true
 else !bif decide (c ≥ (0 : Int)) then decide (c ≤ (10000 : Int)) else false then
 some (DV.tuple [DV.int .i64 0, DV.bool false])
 else
 need (mulS.D [DV.int IntKind.u64 (IntKind.u64.wrap a), DV.int IntKind.u64 (IntKind.u64.wrap b)])
 (need
 (divS.D
 [DV.int IntKind.u64 ((IntKind.u64.wrap a * IntKind.u64.wrap b / (18446744073709551616 : Int)).tmod (10000 : Int)), DV.int IntKind.u64 (IntKind.u64.wrap a * IntKind.u64.wrap b % (18446744073709551616 : Int)), DV.int IntKind.u64 (10000 : Int)])
 (need
 (mulS.D
 [DV.int IntKind.u64 (IntKind.u64.wrap a * IntKind.u64.wrap b % (18446744073709551616 : Int) / (10000 : Int)), DV.int IntKind.u64 (IntKind.u64.wrap (IntKind.i64.wrap ((10000 : Int) - c)))])
 (need
 (addS.D
 [DV.int IntKind.u64
 (IntKind.u64.wrap a * IntKind.u64.wrap b % (18446744073709551616 : Int) / (10000 : Int) *
 IntKind.u64.wrap (IntKind.i64.wrap ((10000 : Int) - c)) %
 (18446744073709551616 : Int)), DV.int IntKind.u64
 (IntKind.u64.wrap
 ((IntKind.u64.wrap
 (IntKind.u64.wrap a * IntKind.u64.wrap b % (18446744073709551616 : Int) % (10000 : Int) *
 IntKind.u64.wrap (IntKind.i64.wrap ((10000 : Int) - c)))).tdiv
 (10000 : Int))), DV.int IntKind.u64 (0 : Int)])
 (bif
 bif
 bif
 bif
 decide
 (IntKind.u64.wrap ((IntKind.u64.wrap a * IntKind.u64.wrap b / (18446744073709551616 : Int)).tdiv (10000 : Int)) > (0 : Int)) then
 decide (IntKind.u64.wrap (IntKind.i64.wrap ((10000 : Int) - c)) > (0 : Int))
 else false then
 true
 else
 decide
 (IntKind.u64.wrap
 (IntKind.u64.wrap a * IntKind.u64.wrap b % (18446744073709551616 : Int) / (10000 : Int) *
 IntKind.u64.wrap (IntKind.i64.wrap ((10000 : Int) - c)) /
 (18446744073709551616 : Int) +
 (IntKind.u64.wrap a * IntKind.u64.wrap b % (18446744073709551616 : Int) / (10000 : Int) *
 IntKind.u64.wrap (IntKind.i64.wrap ((10000 : Int) - c)) %
 (18446744073709551616 : Int) +
 IntKind.u64.wrap
 ((IntKind.u64.wrap
 (IntKind.u64.wrap a * IntKind.u64.wrap b % (18446744073709551616 : Int) % (10000 : Int) *
 IntKind.u64.wrap (IntKind.i64.wrap ((10000 : Int) - c)))).tdiv
 (10000 : Int))) /
 (18446744073709551616 : Int)) >
 (0 : Int)) then
 true
 else
 decide
 ((IntKind.u64.wrap a * IntKind.u64.wrap b % (18446744073709551616 : Int) / (10000 : Int) *
 IntKind.u64.wrap (IntKind.i64.wrap ((10000 : Int) - c)) %
 (18446744073709551616 : Int) +
 IntKind.u64.wrap
 ((IntKind.u64.wrap
 (IntKind.u64.wrap a * IntKind.u64.wrap b % (18446744073709551616 : Int) % (10000 : Int) *
 IntKind.u64.wrap (IntKind.i64.wrap ((10000 : Int) - c)))).tdiv
 (10000 : Int))) %
 (18446744073709551616 : Int) >
 (9223372036854775807 : Int)) then
 some (DV.tuple [DV.int .i64 0, DV.bool false])
 else
 some
 (DV.tuple
 [DV.int .i64
 (IntKind.i64.wrap
 ((IntKind.u64.wrap a * IntKind.u64.wrap b % (18446744073709551616 : Int) / (10000 : Int) *
 IntKind.u64.wrap (IntKind.i64.wrap ((10000 : Int) - c)) %
 (18446744073709551616 : Int) +
 IntKind.u64.wrap
 ((IntKind.u64.wrap
 (IntKind.u64.wrap a * IntKind.u64.wrap b % (18446744073709551616 : Int) % (10000 : Int) *
 IntKind.u64.wrap (IntKind.i64.wrap ((10000 : Int) - c)))).tdiv
 (10000 : Int))) %
 (18446744073709551616 : Int))),
 DV.bool true])))))) :=
  (show FK tab sp1 lsp0 L (n+8) 17 [.int .i64 a, .int .i64 b, .int .i64 c] =
 (cond (bif bif decide (a < (0 : Int)) then true else decide (b < (0 : Int)) then true else !bif decide (c ≥ (0 : Int)) then decide (c ≤ (10000 : Int)) else false)
 (some (.tuple [(.int .i64 ((0 : Int))), (.bool false)]))
 (need (FSpec.D (mulS) [(.int .u64 (IntKind.u64.wrap a)), (.int .u64 (IntKind.u64.wrap b))])
 (need (FSpec.D (divS) [(.int .u64 ((IntKind.u64.wrap a * IntKind.u64.wrap b / (18446744073709551616 : Int)).tmod (10000 : Int))), (.int .u64 (IntKind.u64.wrap a * IntKind.u64.wrap b % (18446744073709551616 : Int))), (.int .u64 ((10000 : Int)))])
 (need (FSpec.D (mulS) [(.int .u64 (IntKind.u64.wrap a * IntKind.u64.wrap b % (18446744073709551616 : Int) / (10000 : Int))), (.int .u64 (IntKind.u64.wrap (IntKind.i64.wrap ((10000 : Int) - c))))])
 (need (FSpec.D (addS) [(.int .u64 (IntKind.u64.wrap a * IntKind.u64.wrap b % (18446744073709551616 : Int) / (10000 : Int) * IntKind.u64.wrap (IntKind.i64.wrap ((10000 : Int) - c)) % (18446744073709551616 : Int))), (.int .u64 (IntKind.u64.wrap ((IntKind.u64.wrap (IntKind.u64.wrap a * IntKind.u64.wrap b % (18446744073709551616 : Int) % (10000 : Int) * IntKind.u64.wrap (IntKind.i64.wrap ((10000 : Int) - c)))).tdiv (10000 : Int)))), (.int .u64 ((0 : Int)))])
 (cond (bif bif bif decide (IntKind.u64.wrap ((IntKind.u64.wrap a * IntKind.u64.wrap b / (18446744073709551616 : Int)).tdiv (10000 : Int)) > (0 : Int)) then decide (IntKind.u64.wrap (IntKind.i64.wrap ((10000 : Int) - c)) > (0 : Int)) else false then true else decide (IntKind.u64.wrap (IntKind.u64.wrap a * IntKind.u64.wrap b % (18446744073709551616 : Int) / (10000 : Int) * IntKind.u64.wrap (IntKind.i64.wrap ((10000 : Int) - c)) / (18446744073709551616 : Int) + (IntKind.u64.wrap a * IntKind.u64.wrap b % (18446744073709551616 : Int) / (10000 : Int) * IntKind.u64.wrap (IntKind.i64.wrap ((10000 : Int) - c)) % (18446744073709551616 : Int) + IntKind.u64.wrap ((IntKind.u64.wrap (IntKind.u64.wrap a * IntKind.u64.wrap b % (18446744073709551616 : Int) % (10000 : Int) * IntKind.u64.wrap (IntKind.i64.wrap ((10000 : Int) - c)))).tdiv (10000 : Int))) / (18446744073709551616 : Int)) > (0 : Int)) then true else decide ((IntKind.u64.wrap a * IntKind.u64.wrap b % (18446744073709551616 : Int) / (10000 : Int) * IntKind.u64.wrap (IntKind.i64.wrap ((10000 : Int) - c)) % (18446744073709551616 : Int) + IntKind.u64.wrap ((IntKind.u64.wrap (IntKind.u64.wrap a * IntKind.u64.wrap b % (18446744073709551616 : Int) % (10000 : Int) * IntKind.u64.wrap (IntKind.i64.wrap ((10000 : Int) - c)))).tdiv (10000 : Int))) % (18446744073709551616 : Int) > (9223372036854775807 : Int)))
 (some (.tuple [(.int .i64 ((0 : Int))), (.bool false)]))
 (some (.tuple [(.int .i64 (IntKind.i64.wrap ((IntKind.u64.wrap a * IntKind.u64.wrap b % (18446744073709551616 : Int) / (10000 : Int) * IntKind.u64.wrap (IntKind.i64.wrap ((10000 : Int) - c)) % (18446744073709551616 : Int) + IntKind.u64.wrap ((IntKind.u64.wrap (IntKind.u64.wrap a * IntKind.u64.wrap b % (18446744073709551616 : Int) % (10000 : Int) * IntKind.u64.wrap (IntKind.i64.wrap ((10000 : Int) - c)))).tdiv (10000 : Int))) % (18446744073709551616 : Int)))), (.bool true)])))))))) from by kernel_rfl).trans (by first | rfl | (simp only [decide_true, decide_false, eq_self, and_true, true_and, and_self, cond_true, cond_false, Nat.le_refl, Int.le_refl, Option.getD_some, Option.getD_none, Int.toNat_natCast, List.take_length, List.drop_zero, Nat.zero_add, List.nil_append, List.all_nil, List.append_nil, Bool.true_and, Bool.and_true, rowsA_sla, rowsA_sl, rowsA_nil, minus_zero, nat_le_cast, nat_nonneg, Option.isSome_some, Option.isSome_none, Bool.false_eq_true, false_and, and_false, if_true, if_false, implies_true, Int.toNat_zero, Bool.not_false, Bool.not_true, bne_self_eq_false]; done) | (simp only [decide_true, decide_false, eq_self, and_true, true_and, and_self, cond_true, cond_false, Nat.le_refl, Int.le_refl, Option.getD_some, Option.getD_none, Int.toNat_natCast, List.take_length, List.drop_zero, Nat.zero_add, List.nil_append, List.all_nil, List.append_nil, Bool.true_and, Bool.and_true, rowsA_sla, rowsA_sl, rowsA_nil, minus_zero, nat_le_cast, nat_nonneg, Option.isSome_some, Option.isSome_none, Bool.false_eq_true, false_and, and_false, if_true, if_false, implies_true, Int.toNat_zero, Bool.not_false, Bool.not_true, bne_self_eq_false]; rfl))
theorem t16 (L n : Nat) (a c : Int) : FK tab noSp lsp0 L (n+8) 16 [.int .i64 a, .int .i64 c] =
   (bif bif decide (a < (0 : Int)) then true else !bif decide (c ≥ (0 : Int)) then decide (c ≤ (10000 : Int)) else false then
 some (DV.tuple [DV.int .i64 0, DV.bool false])
 else
 some
 (DV.tuple
 [DV.int .i64
 (IntKind.i64.wrap
 (IntKind.i64.wrap (IntKind.i64.wrap (a.tdiv (10000 : Int)) * IntKind.i64.wrap ((10000 : Int) - c)) +
 IntKind.i64.wrap ((IntKind.i64.wrap (a.tmod (10000 : Int) * IntKind.i64.wrap ((10000 : Int) - c))).tdiv (10000 : Int)))),
 DV.bool true])) :=
  (show FK tab noSp lsp0 L (n+8) 16 [.int .i64 a, .int .i64 c] =
 (cond (bif decide (a < (0 : Int)) then true else !bif decide (c ≥ (0 : Int)) then decide (c ≤ (10000 : Int)) else false)
 (some (.tuple [(.int .i64 ((0 : Int))), (.bool false)]))
 (some (.tuple [(.int .i64 (IntKind.i64.wrap (IntKind.i64.wrap (IntKind.i64.wrap (a.tdiv (10000 : Int)) * IntKind.i64.wrap ((10000 : Int) - c)) + IntKind.i64.wrap ((IntKind.i64.wrap (a.tmod (10000 : Int) * IntKind.i64.wrap ((10000 : Int) - c))).tdiv (10000 : Int))))), (.bool true)]))) from by kernel_rfl).trans (by first | rfl | (simp only [decide_true, decide_false, eq_self, and_true, true_and, and_self, cond_true, cond_false, Nat.le_refl, Int.le_refl, Option.getD_some, Option.getD_none, Int.toNat_natCast, List.take_length, List.drop_zero, Nat.zero_add, List.nil_append, List.all_nil, List.append_nil, Bool.true_and, Bool.and_true, rowsA_sla, rowsA_sl, rowsA_nil, minus_zero, nat_le_cast, nat_nonneg, Option.isSome_some, Option.isSome_none, Bool.false_eq_true, false_and, and_false, if_true, if_false, implies_true, Int.toNat_zero, Bool.not_false, Bool.not_true, bne_self_eq_false]; done) | (simp only [decide_true, decide_false, eq_self, and_true, true_and, and_self, cond_true, cond_false, Nat.le_refl, Int.le_refl, Option.getD_some, Option.getD_none, Int.toNat_natCast, List.take_length, List.drop_zero, Nat.zero_add, List.nil_append, List.all_nil, List.append_nil, Bool.true_and, Bool.and_true, rowsA_sla, rowsA_sl, rowsA_nil, minus_zero, nat_le_cast, nat_nonneg, Option.isSome_some, Option.isSome_none, Bool.false_eq_true, false_and, and_false, if_true, if_false, implies_true, Int.toNat_zero, Bool.not_false, Bool.not_true, bne_self_eq_false]; rfl))
theorem t18 (L n : Nat) (a c : Int) : FK tab noSp lsp0 L (n+8) 18 [.int .i64 a, .int .i64 c] =
   (bif bif bif decide (a < (0 : Int)) then true else decide (c < (0 : Int)) then true else decide (c > (10000 : Int)) then
 some (DV.tuple [DV.int .i64 0, DV.bool false])
 else
 some
 (DV.tuple
 [DV.int .i64
 (IntKind.i64.wrap
 (IntKind.i64.wrap (IntKind.i64.wrap (a.tdiv (10000 : Int)) * IntKind.i64.wrap ((10000 : Int) - c)) +
 IntKind.i64.wrap ((IntKind.i64.wrap (a.tmod (10000 : Int) * IntKind.i64.wrap ((10000 : Int) - c))).tdiv (10000 : Int)))),
 DV.bool true])) :=
  (show FK tab noSp lsp0 L (n+8) 18 [.int .i64 a, .int .i64 c] =
 (cond (bif bif decide (a < (0 : Int)) then true else decide (c < (0 : Int)) then true else decide (c > (10000 : Int)))
 (some (.tuple [(.int .i64 ((0 : Int))), (.bool false)]))
 (some (.tuple [(.int .i64 (IntKind.i64.wrap (IntKind.i64.wrap (IntKind.i64.wrap (a.tdiv (10000 : Int)) * IntKind.i64.wrap ((10000 : Int) - c)) + IntKind.i64.wrap ((IntKind.i64.wrap (a.tmod (10000 : Int) * IntKind.i64.wrap ((10000 : Int) - c))).tdiv (10000 : Int))))), (.bool true)]))) from by kernel_rfl).trans (by first | rfl | (simp only [decide_true, decide_false, eq_self, and_true, true_and, and_self, cond_true, cond_false, Nat.le_refl, Int.le_refl, Option.getD_some, Option.getD_none, Int.toNat_natCast, List.take_length, List.drop_zero, Nat.zero_add, List.nil_append, List.all_nil, List.append_nil, Bool.true_and, Bool.and_true, rowsA_sla, rowsA_sl, rowsA_nil, minus_zero, nat_le_cast, nat_nonneg, Option.isSome_some, Option.isSome_none, Bool.false_eq_true, false_and, and_false, if_true, if_false, implies_true, Int.toNat_zero, Bool.not_false, Bool.not_true, bne_self_eq_false]; done) | (simp only [decide_true, decide_false, eq_self, and_true, true_and, and_self, cond_true, cond_false, Nat.le_refl, Int.le_refl, Option.getD_some, Option.getD_none, Int.toNat_natCast, List.take_length, List.drop_zero, Nat.zero_add, List.nil_append, List.all_nil, List.append_nil, Bool.true_and, Bool.and_true, rowsA_sla, rowsA_sl, rowsA_nil, minus_zero, nat_le_cast, nat_nonneg, Option.isSome_some, Option.isSome_none, Bool.false_eq_true, false_and, and_false, if_true, if_false, implies_true, Int.toNat_zero, Bool.not_false, Bool.not_true, bne_self_eq_false]; rfl))
theorem t15 (L : Nat) : FK tab sp1 lsp0 100 10 15 [] =
   (need (addS.D [DV.int IntKind.u64 (0 : Int), DV.int IntKind.u64 (IntKind.u64.wrap (4611686018427387904 : Int)), DV.int IntKind.u64 (0 : Int)])
 (need
 (addS.D
 [DV.int IntKind.u64 (((0 : Int) + IntKind.u64.wrap (4611686018427387904 : Int)) % (18446744073709551616 : Int)), DV.int IntKind.u64 (IntKind.u64.wrap (4611686018427387904 : Int)), DV.int IntKind.u64 (0 : Int)])
 (need
 (addS.D
 [DV.int IntKind.u64
 ((((0 : Int) + IntKind.u64.wrap (4611686018427387904 : Int)) % (18446744073709551616 : Int) + IntKind.u64.wrap (4611686018427387904 : Int)) %
 (18446744073709551616 : Int)), DV.int IntKind.u64 (IntKind.u64.wrap (-4611686018427387904 : Int)), DV.int IntKind.u64 (0 : Int)])
 (need (mulS.D [DV.int IntKind.u64 (IntKind.u64.wrap (100 : Int)), DV.int IntKind.u64 (IntKind.u64.wrap (10 : Int))])
 (need
 (divS.D
 [DV.int IntKind.u64 ((IntKind.u64.wrap (100 : Int) * IntKind.u64.wrap (10 : Int) / (18446744073709551616 : Int)).tmod (10000 : Int)), DV.int IntKind.u64 (IntKind.u64.wrap (100 : Int) * IntKind.u64.wrap (10 : Int) % (18446744073709551616 : Int)), DV.int IntKind.u64 (10000 : Int)])
 (need
 (mulS.D
 [DV.int IntKind.u64 (IntKind.u64.wrap (100 : Int) * IntKind.u64.wrap (10 : Int) % (18446744073709551616 : Int) / (10000 : Int)), DV.int IntKind.u64 (IntKind.u64.wrap (IntKind.i64.wrap (9000 : Int)))])
 (need
 (addS.D
 [DV.int IntKind.u64
 (IntKind.u64.wrap (100 : Int) * IntKind.u64.wrap (10 : Int) % (18446744073709551616 : Int) / (10000 : Int) *
 IntKind.u64.wrap (IntKind.i64.wrap (9000 : Int)) %
 (18446744073709551616 : Int)), DV.int IntKind.u64
 (IntKind.u64.wrap
 ((IntKind.u64.wrap
 (IntKind.u64.wrap (100 : Int) * IntKind.u64.wrap (10 : Int) % (18446744073709551616 : Int) % (10000 : Int) *
 IntKind.u64.wrap (IntKind.i64.wrap (9000 : Int)))).tdiv
 (10000 : Int))), DV.int IntKind.u64 (0 : Int)])
 (some
 (DV.bool
 (bif
 bif
 bif
 bif
 IntKind.i64.wrap
 (IntKind.i64.wrap (IntKind.i64.wrap (1 : Int) * IntKind.i64.wrap (9999 : Int)) +
 IntKind.i64.wrap ((IntKind.i64.wrap ((1 : Int) * IntKind.i64.wrap (9999 : Int))).tdiv (10000 : Int))) ==
 (9999 : Int) then
 true
 else false then
 IntKind.i64.wrap
 (((((0 : Int) + IntKind.u64.wrap (4611686018427387904 : Int)) % (18446744073709551616 : Int) +
 IntKind.u64.wrap (4611686018427387904 : Int)) %
 (18446744073709551616 : Int) +
 IntKind.u64.wrap (-4611686018427387904 : Int)) %
 (18446744073709551616 : Int)) ==
 (4611686018427387904 : Int)
 else false then
 true
 else false then
 IntKind.i64.wrap
 ((IntKind.u64.wrap (100 : Int) * IntKind.u64.wrap (10 : Int) % (18446744073709551616 : Int) / (10000 : Int) *
 IntKind.u64.wrap (IntKind.i64.wrap (9000 : Int)) %
 (18446744073709551616 : Int) +
 IntKind.u64.wrap
 ((IntKind.u64.wrap
 (IntKind.u64.wrap (100 : Int) * IntKind.u64.wrap (10 : Int) % (18446744073709551616 : Int) % (10000 : Int) *
 IntKind.u64.wrap (IntKind.i64.wrap (9000 : Int)))).tdiv
 (10000 : Int))) %
 (18446744073709551616 : Int)) ==
 (900 : Int)
 else false)))))))))) :=
  (show FK tab sp1 lsp0 100 10 15 [] =
 (need (FSpec.D (addS) [(.int .u64 ((0 : Int))), (.int .u64 (IntKind.u64.wrap (4611686018427387904 : Int))), (.int .u64 ((0 : Int)))])
 (need (FSpec.D (addS) [(.int .u64 (((0 : Int) + IntKind.u64.wrap (4611686018427387904 : Int)) % (18446744073709551616 : Int))), (.int .u64 (IntKind.u64.wrap (4611686018427387904 : Int))), (.int .u64 ((0 : Int)))])
 (need (FSpec.D (addS) [(.int .u64 ((((0 : Int) + IntKind.u64.wrap (4611686018427387904 : Int)) % (18446744073709551616 : Int) + IntKind.u64.wrap (4611686018427387904 : Int)) % (18446744073709551616 : Int))), (.int .u64 (IntKind.u64.wrap (-4611686018427387904 : Int))), (.int .u64 ((0 : Int)))])
 (need (FSpec.D (mulS) [(.int .u64 (IntKind.u64.wrap (100 : Int))), (.int .u64 (IntKind.u64.wrap (10 : Int)))])
 (need (FSpec.D (divS) [(.int .u64 ((IntKind.u64.wrap (100 : Int) * IntKind.u64.wrap (10 : Int) / (18446744073709551616 : Int)).tmod (10000 : Int))), (.int .u64 (IntKind.u64.wrap (100 : Int) * IntKind.u64.wrap (10 : Int) % (18446744073709551616 : Int))), (.int .u64 ((10000 : Int)))])
 (need (FSpec.D (mulS) [(.int .u64 (IntKind.u64.wrap (100 : Int) * IntKind.u64.wrap (10 : Int) % (18446744073709551616 : Int) / (10000 : Int))), (.int .u64 (IntKind.u64.wrap (IntKind.i64.wrap (9000 : Int))))])
 (need (FSpec.D (addS) [(.int .u64 (IntKind.u64.wrap (100 : Int) * IntKind.u64.wrap (10 : Int) % (18446744073709551616 : Int) / (10000 : Int) * IntKind.u64.wrap (IntKind.i64.wrap (9000 : Int)) % (18446744073709551616 : Int))), (.int .u64 (IntKind.u64.wrap ((IntKind.u64.wrap (IntKind.u64.wrap (100 : Int) * IntKind.u64.wrap (10 : Int) % (18446744073709551616 : Int) % (10000 : Int) * IntKind.u64.wrap (IntKind.i64.wrap (9000 : Int)))).tdiv (10000 : Int)))), (.int .u64 ((0 : Int)))])
 (some (.bool (bif bif bif bif IntKind.i64.wrap (IntKind.i64.wrap (IntKind.i64.wrap (1 : Int) * IntKind.i64.wrap (9999 : Int)) + IntKind.i64.wrap ((IntKind.i64.wrap ((1 : Int) * IntKind.i64.wrap (9999 : Int))).tdiv (10000 : Int))) == (9999 : Int) then true else false then IntKind.i64.wrap (((((0 : Int) + IntKind.u64.wrap (4611686018427387904 : Int)) % (18446744073709551616 : Int) + IntKind.u64.wrap (4611686018427387904 : Int)) % (18446744073709551616 : Int) + IntKind.u64.wrap (-4611686018427387904 : Int)) % (18446744073709551616 : Int)) == (4611686018427387904 : Int) else false then true else false then IntKind.i64.wrap ((IntKind.u64.wrap (100 : Int) * IntKind.u64.wrap (10 : Int) % (18446744073709551616 : Int) / (10000 : Int) * IntKind.u64.wrap (IntKind.i64.wrap (9000 : Int)) % (18446744073709551616 : Int) + IntKind.u64.wrap ((IntKind.u64.wrap (IntKind.u64.wrap (100 : Int) * IntKind.u64.wrap (10 : Int) % (18446744073709551616 : Int) % (10000 : Int) * IntKind.u64.wrap (IntKind.i64.wrap (9000 : Int)))).tdiv (10000 : Int))) % (18446744073709551616 : Int)) == (900 : Int) else false)))))))))) from by kernel_rfl).trans (by first | rfl | (simp only [decide_true, decide_false, eq_self, and_true, true_and, and_self, cond_true, cond_false, Nat.le_refl, Int.le_refl, Option.getD_some, Option.getD_none, Int.toNat_natCast, List.take_length, List.drop_zero, Nat.zero_add, List.nil_append, List.all_nil, List.append_nil, Bool.true_and, Bool.and_true, rowsA_sla, rowsA_sl, rowsA_nil, minus_zero, nat_le_cast, nat_nonneg, Option.isSome_some, Option.isSome_none, Bool.false_eq_true, false_and, and_false, if_true, if_false, implies_true, Int.toNat_zero, Bool.not_false, Bool.not_true, bne_self_eq_false]; done) | (simp only [decide_true, decide_false, eq_self, and_true, true_and, and_self, cond_true, cond_false, Nat.le_refl, Int.le_refl, Option.getD_some, Option.getD_none, Int.toNat_natCast, List.take_length, List.drop_zero, Nat.zero_add, List.nil_append, List.all_nil, List.append_nil, Bool.true_and, Bool.and_true, rowsA_sla, rowsA_sl, rowsA_nil, minus_zero, nat_le_cast, nat_nonneg, Option.isSome_some, Option.isSome_none, Bool.false_eq_true, false_and, and_false, if_true, if_false, implies_true, Int.toNat_zero, Bool.not_false, Bool.not_true, bne_self_eq_false]; rfl))
theorem wU (a : Nat) : IntKind.u64.wrap (a : Int) = ((a % 18446744073709551616 : Nat) : Int) := by
  rw [show ∀ n : Int, IntKind.u64.wrap n = n % 18446744073709551616 from fun n => by simp [IntKind.wrap, IntKind.bits, IntKind.signed]]
  omega
theorem wN (a : Nat) (ha : a < 18446744073709551616) : IntKind.u64.wrap (a : Int) = (a : Int) := by rw [wU]; omega
theorem maskU (a : Nat) : (((BitVec.ofInt IntKind.u64.bits (a : Int) &&& BitVec.ofInt IntKind.u64.bits (4294967295 : Int)).toNat : Nat) : Int) = ((a % 4294967296 : Nat) : Int) := by
  have h : (BitVec.ofInt 64 (a : Int) &&& BitVec.ofInt 64 (4294967295 : Int)).toNat = a % 4294967296 := by
    rw [BitVec.toNat_and, BitVec.toNat_ofInt, BitVec.toNat_ofInt]
    have e1 : ((a : Int) % ((2 ^ 64 : Nat) : Int)).toNat = a % 18446744073709551616 := by omega
    have e2 : ((4294967295 : Int) % ((2 ^ 64 : Nat) : Int)).toNat = 2 ^ 32 - 1 := by decide
    rw [e1, e2, Nat.and_two_pow_sub_one_eq_mod]
    omega
  exact congrArg Int.ofNat h
theorem shrU (a : Nat) : (a : Int).fdiv ((2 : Int) ^ min (Int.toNat (32 : Int)) IntKind.u64.bits) = ((a / 4294967296 : Nat) : Int) := by
  rw [show (2 : Int) ^ min (Int.toNat (32 : Int)) IntKind.u64.bits = 4294967296 from by decide, Int.fdiv_eq_ediv_of_nonneg _ (by omega)]
  omega
theorem shrU2 (a : Nat) : (a : Int).fdiv ((2 : Int) ^ min (32 : Nat) IntKind.u64.bits) = ((a / 4294967296 : Nat) : Int) := shrU a
theorem mulN (a b : Nat) : (a : Int) * (b : Int) = ((a * b : Nat) : Int) := (Int.natCast_mul a b).symm
theorem addN (a b : Nat) : (a : Int) + (b : Int) = ((a + b : Nat) : Int) := (Int.natCast_add a b).symm
theorem divN (a b : Nat) : (a : Int) / (b : Int) = ((a / b : Nat) : Int) := rfl
theorem tdivN (a b : Nat) : (a : Int).tdiv (b : Int) = ((a / b : Nat) : Int) := rfl
theorem tmodN (a b : Nat) : (a : Int).tmod (b : Int) = ((a % b : Nat) : Int) := rfl
theorem modN (a b : Nat) : (a : Int) % (b : Int) = ((a % b : Nat) : Int) := rfl
set_option maxHeartbeats 1000000 in
theorem mul31 : mulS.ok Try.prog 31 := fspec_ok (lsp := lsp0) tab_ok noSp_ok fun ds hD => by
  obtain ⟨x, y, rfl, hx, hy⟩ := hD
  refine ⟨100, 0 + 8, (t31 100 0 x y).trans ?_⟩
  obtain ⟨bd, bt, bw, hhi⟩ := Lib.mul64_hi x y hx hy
  have ba := Lib.half_mul_le (a := x / 4294967296) (b := y / 4294967296) (by omega) (by omega)
  have bb := Lib.half_mul_le (a := x / 4294967296) (b := y % 4294967296) (by omega) (by omega)
  have bc := Lib.half_mul_le (a := x % 4294967296) (b := y / 4294967296) (by omega) (by omega)
  have ba' : x / 4294967296 * (y / 4294967296) < 18446744073709551616 := by omega
  have bb' : x / 4294967296 * (y % 4294967296) < 18446744073709551616 := by omega
  have bc' : x % 4294967296 * (y / 4294967296) < 18446744073709551616 := by omega
  have bh1 : x / 4294967296 * (y / 4294967296) + (x / 4294967296 * (y % 4294967296) + x % 4294967296 * (y % 4294967296) / 4294967296) / 4294967296 < 18446744073709551616 := by omega
  have bh : x / 4294967296 * (y / 4294967296) + (x / 4294967296 * (y % 4294967296) + x % 4294967296 * (y % 4294967296) / 4294967296) / 4294967296 + ((x / 4294967296 * (y % 4294967296) + x % 4294967296 * (y % 4294967296) / 4294967296) % 4294967296 + x % 4294967296 * (y / 4294967296)) / 4294967296 < 18446744073709551616 := by omega
  have hm : ∀ a : Nat, a % 4294967296 < 18446744073709551616 := fun a => by omega
  simp only [maskU, shrU, shrU2, wN _ (hm x), wN _ (hm y), mulN, wN _ bd, wN _ bb', addN, wN _ bt, wN _ (hm _), wN _ bc', wN _ bw, wN _ ba', wN _ bh1, wN _ bh, wU (x * y)]
  rw [hhi]
  rfl
theorem div32 : divS.ok Try.prog 32 := fspec_ok (lsp := lsp0) tab_ok noSp_ok fun ds hD => by
  obtain ⟨x, y, rfl, hx, hy, hy2⟩ := hD
  refine ⟨100, 0 + 8, (t32 100 0 x y).trans ?_⟩
  have h1 : ((y : Int) == 0) = false := by
    rw [beq_eq_false_iff_ne]
    omega
  rw [h1, decide_eq_false (show ¬ (y : Int) ≤ 0 by omega), decide_eq_false (show ¬ (y : Int) = 0 by omega)]
  simp only [cond_false]
  have hle : x / y < 18446744073709551616 := Nat.lt_of_le_of_lt (Nat.div_le_self _ _) hx
  rw [tdivN, tmodN, wN _ hle]
  rfl
theorem add28 : addS.ok Try.prog 28 := by
  intro ds r hD hv
  obtain ⟨x, y, rfl, hx, hy⟩ := hD
  simp only [addS, Option.some.injEq] at hv
  subst hv
  intro w vs S0 o hl hS
  simp only [ArgsAt, RdL, RdD] at hl
  obtain ⟨hl, rfl⟩ := hl
  obtain ⟨u, us, rfl, rfl, u2, us2, rfl, rfl, u3, us3, rfl, rfl, rfl⟩ := hl
  refine .inr ⟨.tuple #[.int .u64 ((x + y : Int) % 18446744073709551616), .int .u64 ((x + y : Int) / 18446744073709551616)], w, ?_, S0, ⟨BelowP.refl _ _, fun _ _ h => h, fun _ _ h => .inl h, hS, ?_⟩⟩
  · refine (run_callFunc_extern (f := 28) (fn := Try.f28) (e := add64Entry) (by kernel_rfl) (by kernel_rfl) (by kernel_rfl) (by kernel_rfl) (by kernel_rfl) _ w).trans ?_
    have := run_add64 (P := Try.prog) (x : Int) (y : Int) 0 (by omega) (by omega) (by omega) (by omega) w
    rw [this]
    simp only [Result.andThen, Int.add_zero]
  · simp only [Res]
    refine ⟨[.int .u64 ((x + y : Int) % 18446744073709551616), .int .u64 ((x + y : Int) / 18446744073709551616)], [], rfl, ?_⟩
    simp only [ResL, RdD]
    exact ⟨_, _, rfl, rfl, _, _, rfl, rfl, by simp⟩
theorem sp1_ok : ∀ f s, sp1 f = some s → s.ok Try.prog f := spAdd_ok mul31 (spAdd_ok add28 (spAdd_ok div32 noSp_ok))
def trueS : FSpec where
  D ds := ds = []
  val ds := some (.bool true)
theorem needN {s : FSpec} {ds : List DV} {a : Option DV} (h : s.D ds) : need (s.D ds) a = a := need_pos h
theorem known15 : trueS.ok Try.prog 15 := fspec_ok (lsp := lsp0) tab_ok sp1_ok fun ds hD => by
  cases hD
  refine ⟨100, 10, (t15 100).trans ?_⟩
  have hA : ∀ x y : Nat, x < 18446744073709551616 → y < 18446744073709551616 → addS.D [.int .u64 x, .int .u64 y, .int .u64 0] := fun x y h1 h2 => ⟨x, y, rfl, h1, h2⟩
  refine (need_pos (hA 0 4611686018427387904 (by omega) (by omega))).trans ?_
  refine (need_pos (hA 4611686018427387904 4611686018427387904 (by omega) (by omega))).trans ?_
  refine (need_pos (hA 9223372036854775808 13835058055282163712 (by omega) (by omega))).trans ?_
  refine (need_pos ⟨100, 10, rfl, by omega, by omega⟩).trans ?_
  refine (need_pos ⟨1000, 10000, rfl, by omega, by omega, by omega⟩).trans ?_
  refine (need_pos ⟨0, 9000, rfl, by omega, by omega⟩).trans ?_
  refine (need_pos (hA 0 900 (by omega) (by omega))).trans ?_
  kernel_rfl
def is64 (n : Int) : Prop := -9223372036854775808 ≤ n ∧ n ≤ 9223372036854775807
def badL (n c : Int) : Bool := decide (n < 0 ∨ c < 0 ∨ c > 10000)
def lessI (n c : Int) : Int := n / 10000 * (10000 - c) + n % 10000 * (10000 - c) / 10000
def lessS : FSpec where
  D ds := ∃ n c, ds = [.int .i64 n, .int .i64 c] ∧ is64 n ∧ is64 c
  val ds := match ds with | [.int _ n, .int _ c] => some (.tuple [.int .i64 (cond (badL n c) 0 (lessI n c)), .bool (!badL n c)]) | _ => none
theorem lessN_le (n c : Nat) (hc : c ≤ 10000) : n / 10000 * (10000 - c) + n % 10000 * (10000 - c) / 10000 ≤ n := by
  have h1 : n / 10000 * (10000 - c) ≤ n / 10000 * 10000 := Nat.mul_le_mul_left _ (by omega)
  have h2 : n % 10000 * (10000 - c) ≤ n % 10000 * 10000 := Nat.mul_le_mul_left _ (by omega)
  have h3 : n % 10000 * (10000 - c) / 10000 ≤ n % 10000 := Nat.div_le_of_le_mul (by omega)
  omega
theorem lessI_nat (n c : Nat) (hc : c ≤ 10000) : lessI n c = ((n / 10000 * (10000 - c) + n % 10000 * (10000 - c) / 10000 : Nat) : Int) := by
  unfold lessI
  rw [show (10000 : Int) - (c : Int) = ((10000 - c : Nat) : Int) by omega]
  rfl
theorem less_run {n c : Int} (hn : is64 n) (hc : is64 c) : cond (badL n c) (some (DV.tuple [.int .i64 0, .bool false]))
    (some (.tuple [(.int .i64 (IntKind.i64.wrap (IntKind.i64.wrap (IntKind.i64.wrap (n.tdiv (10000 : Int)) * IntKind.i64.wrap ((10000 : Int) - c)) + IntKind.i64.wrap ((IntKind.i64.wrap (n.tmod (10000 : Int) * IntKind.i64.wrap ((10000 : Int) - c))).tdiv (10000 : Int))))), (.bool true)])) =
    lessS.val [.int .i64 n, .int .i64 c] := by
  simp only [lessS]
  cases hb : badL n c with
  | true => rfl
  | false =>
    have hb' := of_decide_eq_false hb
    simp only [cond_false, Bool.not_false]
    obtain ⟨h1, h2⟩ := hn
    obtain ⟨N, rfl⟩ : ∃ N : Nat, n = (N : Int) := ⟨n.toNat, by omega⟩
    obtain ⟨C, rfl⟩ : ∃ C : Nat, c = (C : Int) := ⟨c.toNat, by omega⟩
    have hC : C ≤ 10000 := by omega
    have w : ∀ m : Nat, m ≤ 9223372036854775807 → IntKind.i64.wrap (m : Int) = (m : Int) := fun m hm => wrap_fits (by omega) (by omega)
    have k : IntKind.i64.wrap ((10000 : Int) - (C : Int)) = ((10000 - C : Nat) : Int) := by rw [wrap_fits] <;> omega
    have hle := lessN_le N C hC
    have h3 : N / 10000 * (10000 - C) ≤ N := by omega
    have h4 : N % 10000 * (10000 - C) ≤ 100000000 := by
      have : N % 10000 * (10000 - C) ≤ N % 10000 * 10000 := Nat.mul_le_mul_left _ (by omega)
      omega
    rw [k, show ((N : Int).tdiv 10000) = ((N / 10000 : Nat) : Int) from rfl, show ((N : Int).tmod 10000) = ((N % 10000 : Nat) : Int) from rfl, w _ (by omega), mulN, mulN, w _ (by omega), w _ (by omega)]
    rw [show (((N % 10000 * (10000 - C) : Nat) : Int).tdiv 10000) = ((N % 10000 * (10000 - C) / 10000 : Nat) : Int) from rfl, w _ (by omega), addN, w _ (by omega), lessI_nat N C hC]
theorem less16 : lessS.ok Try.prog 16 := fspec_ok (lsp := lsp0) tab_ok noSp_ok fun ds hD => by
  obtain ⟨n, c, rfl, hn, hc⟩ := hD
  refine ⟨100, 0 + 8, (t16 100 0 n c).trans ?_⟩
  have : (bif decide (n < (0 : Int)) then true else !bif decide (c ≥ (0 : Int)) then decide (c ≤ (10000 : Int)) else false) = badL n c := by
    unfold badL
    rw [Bool.eq_iff_iff]
    simp
  rw [this]
  exact less_run hn hc
theorem less18 : lessS.ok Try.prog 18 := fspec_ok (lsp := lsp0) tab_ok noSp_ok fun ds hD => by
  obtain ⟨n, c, rfl, hn, hc⟩ := hD
  refine ⟨100, 0 + 8, (t18 100 0 n c).trans ?_⟩
  have : (bif bif decide (n < (0 : Int)) then true else decide (c < (0 : Int)) then true else decide (c > (10000 : Int))) = badL n c := by
    unfold badL
    rw [Bool.eq_iff_iff]
    simp
    omega
  rw [this]
  exact less_run hn hc
/-- what a price and a number of small size are worth -/
def worthS : FSpec where
  D ds := ∃ a b c : Nat, ds = [.int .i64 a, .int .i64 b, .int .i64 c] ∧ a < 9223372036854775808 ∧ b < 9223372036854775808 ∧ a * b ≤ 4611686018427387904 ∧ c ≤ 10000
  val ds := match ds with | [.int _ a, .int _ b, .int _ c] => some (.tuple [.int .i64 (lessI (a * b) c), .bool true]) | _ => none
theorem worth17 : worthS.ok Try.prog 17 := fspec_ok (lsp := lsp0) tab_ok sp1_ok fun ds hD => by
  obtain ⟨a, b, c, rfl, ha, hb, hp, hc⟩ := hD
  refine ⟨100, 0 + 8, (t17 100 0 a b c).trans ?_⟩
  have w : ∀ m : Nat, m ≤ 9223372036854775807 → IntKind.i64.wrap (m : Int) = (m : Int) := fun m hm => wrap_fits (by omega) (by omega)
  have k : IntKind.i64.wrap ((10000 : Int) - (c : Int)) = ((10000 - c : Nat) : Int) := by rw [wrap_fits] <;> omega
  have hle := lessN_le (a * b) c hc
  have h4 : a * b % 10000 * (10000 - c) ≤ 100000000 := by
    have : a * b % 10000 * (10000 - c) ≤ a * b % 10000 * 10000 := Nat.mul_le_mul_left _ (by omega)
    omega
  have e0 : (bif bif decide ((a : Int) < (0 : Int)) then true else decide ((b : Int) < (0 : Int)) then true else !bif decide ((c : Int) ≥ (0 : Int)) then decide ((c : Int) ≤ (10000 : Int)) else false) = false := by
    rw [Bool.eq_false_iff]
    intro h
    simp at h
    omega
  have d0 : ((a * b : Nat) : Int) / 18446744073709551616 = 0 := by omega
  have d1 : ((a * b : Nat) : Int) % 18446744073709551616 = ((a * b : Nat) : Int) := by omega
  have d2 : ((a * b : Nat) : Int) / 10000 = ((a * b / 10000 : Nat) : Int) := rfl
  have d3 : ((a * b : Nat) : Int) % 10000 = ((a * b % 10000 : Nat) : Int) := rfl
  have d4 : (((a * b / 10000 * (10000 - c) : Nat) : Int)) % 18446744073709551616 = ((a * b / 10000 * (10000 - c) : Nat) : Int) := by omega
  have d5 : (((a * b / 10000 * (10000 - c) : Nat) : Int)) / 18446744073709551616 = 0 := by omega
  have d6 : (((a * b % 10000 * (10000 - c) : Nat) : Int).tdiv 10000) = ((a * b % 10000 * (10000 - c) / 10000 : Nat) : Int) := rfl
  have d7 : ((a * b / 10000 * (10000 - c) + a * b % 10000 * (10000 - c) / 10000 : Nat) : Int) % 18446744073709551616 = ((a * b / 10000 * (10000 - c) + a * b % 10000 * (10000 - c) / 10000 : Nat) : Int) := by omega
  have d8 : ((a * b / 10000 * (10000 - c) + a * b % 10000 * (10000 - c) / 10000 : Nat) : Int) / 18446744073709551616 = 0 := by omega
  simp only [e0, cond_false, k, wN a (by omega), wN b (by omega), wN (10000 - c) (by omega), mulN, d0, d1, d2, d3, d4, d5, wN (a * b % 10000 * (10000 - c)) (by omega), d6, wN (a * b % 10000 * (10000 - c) / 10000) (by omega), addN, d7, d8, w _ (show a * b / 10000 * (10000 - c) + a * b % 10000 * (10000 - c) / 10000 ≤ 9223372036854775807 by omega)]
  refine (need_pos ⟨a, b, rfl, by omega, by omega⟩).trans ?_
  refine (need_pos ⟨a * b, 10000, rfl, by omega, by omega, by omega⟩).trans ?_
  refine (need_pos ⟨a * b / 10000, 10000 - c, rfl, by omega, by omega⟩).trans ?_
  refine (need_pos ⟨a * b / 10000 * (10000 - c), a * b % 10000 * (10000 - c) / 10000, rfl, by omega, by omega⟩).trans ?_
  have hgt : ¬ ((a * b / 10000 * (10000 - c) + a * b % 10000 * (10000 - c) / 10000 : Nat) : Int) > 9223372036854775807 := by omega
  rw [decide_eq_false hgt]
  have : lessI ((a : Int) * (b : Int)) (c : Int) = ((a * b / 10000 * (10000 - c) + a * b % 10000 * (10000 - c) / 10000 : Nat) : Int) := lessI_nat (a * b) c hc
  simp only [worthS, this]
  rfl
noncomputable def sp2 : FuncId → Option FSpec := spAdd 15 trueS (spAdd 16 lessS (spAdd 18 lessS (spAdd 17 worthS noSp)))
theorem sp2_ok : ∀ f s, sp2 f = some s → s.ok Try.prog f := spAdd_ok known15 (spAdd_ok less16 (spAdd_ok less18 (spAdd_ok worth17 noSp_ok)))
end Go.Proofs.Ytianifckopijjaa
