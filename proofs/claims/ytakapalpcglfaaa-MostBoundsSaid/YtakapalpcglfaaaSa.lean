/- What is known of functions of accounts, by their runs. No condition. -/
import Derived.Test.YtakapalpcglfaaaCode
import Derived.Test.YtakapalpcglfaaaVmR
namespace Go.Proofs.Ytakapalpcglfaaa
open Go Go.Proofs Vm
set_option linter.unusedVariables false
set_option linter.unusedSimpArgs false
def lsp0 : Nat → Option LSpec := fun _ => none
theorem t11 (L n : Nat) (a b c k : Int) : FK tab noSp lsp0 L (n+8) 11 [.agg [.int .i64 a, .int .i64 b, .int .i64 c], .int .i64 k] =
   (bif k == (3 : Int) then some (DV.int .i64 (IntKind.i64.wrap (IntKind.i64.wrap (a + b) - c)))
 else some (DV.int .i64 (IntKind.i64.wrap (a + b)))) :=
  (show FK tab noSp lsp0 L (n+8) 11 [.agg [.int .i64 a, .int .i64 b, .int .i64 c], .int .i64 k] =
 (cond (k == (3 : Int))
 (some (.int .i64 (IntKind.i64.wrap (IntKind.i64.wrap (a + b) - c))))
 (some (.int .i64 (IntKind.i64.wrap (a + b))))) from by kernel_rfl).trans (by first | rfl | (simp only [decide_true, decide_false, eq_self, and_true, true_and, and_self, cond_true, cond_false, Nat.le_refl, Int.le_refl, Option.getD_some, Option.getD_none, Int.toNat_natCast, List.take_length, List.drop_zero, Nat.zero_add, List.nil_append, List.all_nil, List.append_nil, Bool.true_and, Bool.and_true, rowsA_sla, rowsA_sl, rowsA_nil, minus_zero, nat_le_cast, nat_nonneg, Option.isSome_some, Option.isSome_none, Bool.false_eq_true, false_and, and_false, if_true, if_false, implies_true, Int.toNat_zero, Bool.not_false, Bool.not_true, bne_self_eq_false]; done) | (simp only [decide_true, decide_false, eq_self, and_true, true_and, and_self, cond_true, cond_false, Nat.le_refl, Int.le_refl, Option.getD_some, Option.getD_none, Int.toNat_natCast, List.take_length, List.drop_zero, Nat.zero_add, List.nil_append, List.all_nil, List.append_nil, Bool.true_and, Bool.and_true, rowsA_sla, rowsA_sl, rowsA_nil, minus_zero, nat_le_cast, nat_nonneg, Option.isSome_some, Option.isSome_none, Bool.false_eq_true, false_and, and_false, if_true, if_false, implies_true, Int.toNat_zero, Bool.not_false, Bool.not_true, bne_self_eq_false]; rfl))
theorem t18 (L n : Nat) (a b c k : Int) : FK tab noSp lsp0 L (n+8) 18 [.agg [.int .i64 a, .int .i64 b, .int .i64 c], .int .i64 k] =
   (bif k == (3 : Int) then some (DV.int .i64 (IntKind.i64.wrap (IntKind.i64.wrap (a + b) - c)))
 else some (DV.int .i64 (IntKind.i64.wrap (a + b)))) :=
  (show FK tab noSp lsp0 L (n+8) 18 [.agg [.int .i64 a, .int .i64 b, .int .i64 c], .int .i64 k] =
 (cond (k == (3 : Int))
 (some (.int .i64 (IntKind.i64.wrap (IntKind.i64.wrap (a + b) - c))))
 (some (.int .i64 (IntKind.i64.wrap (a + b))))) from by kernel_rfl).trans (by first | rfl | (simp only [decide_true, decide_false, eq_self, and_true, true_and, and_self, cond_true, cond_false, Nat.le_refl, Int.le_refl, Option.getD_some, Option.getD_none, Int.toNat_natCast, List.take_length, List.drop_zero, Nat.zero_add, List.nil_append, List.all_nil, List.append_nil, Bool.true_and, Bool.and_true, rowsA_sla, rowsA_sl, rowsA_nil, minus_zero, nat_le_cast, nat_nonneg, Option.isSome_some, Option.isSome_none, Bool.false_eq_true, false_and, and_false, if_true, if_false, implies_true, Int.toNat_zero, Bool.not_false, Bool.not_true, bne_self_eq_false]; done) | (simp only [decide_true, decide_false, eq_self, and_true, true_and, and_self, cond_true, cond_false, Nat.le_refl, Int.le_refl, Option.getD_some, Option.getD_none, Int.toNat_natCast, List.take_length, List.drop_zero, Nat.zero_add, List.nil_append, List.all_nil, List.append_nil, Bool.true_and, Bool.and_true, rowsA_sla, rowsA_sl, rowsA_nil, minus_zero, nat_le_cast, nat_nonneg, Option.isSome_some, Option.isSome_none, Bool.false_eq_true, false_and, and_false, if_true, if_false, implies_true, Int.toNat_zero, Bool.not_false, Bool.not_true, bne_self_eq_false]; rfl))
theorem t12 (L n : Nat) (a b c k m : Int) : FK tab noSp lsp0 L (n+8) 12 [.agg [.int .i64 a, .int .i64 b, .int .i64 c], .int .i64 m, .int .i64 k] =
   (bif
 bif
 bif decide (IntKind.i64.wrap ((0 : Int) - m) > (0 : Int)) then
 decide (a > IntKind.i64.wrap ((9223372036854775807 : Int) - IntKind.i64.wrap ((0 : Int) - m)))
 else false then
 true
 else
 bif decide (IntKind.i64.wrap ((0 : Int) - m) < (0 : Int)) then
 decide (a < IntKind.i64.wrap ((-9223372036854775808 : Int) - IntKind.i64.wrap ((0 : Int) - m)))
 else false then
 some (DV.tuple [DV.agg [DV.int .i64 a, DV.int .i64 b, DV.int .i64 c], DV.int .i64 8])
 else
 bif
 !bif
 bif
 bif
 bif
 bif decide (IntKind.i64.wrap (a + IntKind.i64.wrap ((0 : Int) - m)) > (-4611686018427387904 : Int)) then
 decide (IntKind.i64.wrap (a + IntKind.i64.wrap ((0 : Int) - m)) < (4611686018427387904 : Int))
 else false then
 decide (b ≥ (0 : Int))
 else false then
 decide (b ≤ (2305843009213693952 : Int))
 else false then
 decide (c ≥ (0 : Int))
 else false then
 decide (c ≤ (2305843009213693952 : Int))
 else false then
 some (DV.tuple [DV.agg [DV.int .i64 a, DV.int .i64 b, DV.int .i64 c], DV.int .i64 8])
 else
 bif bif k == (1 : Int) then true else k == (2 : Int) then
 some
 (DV.tuple
 [DV.agg
 [DV.int .i64 (IntKind.i64.wrap (a + IntKind.i64.wrap ((0 : Int) - m))), DV.int .i64 b, DV.int .i64 (if (0 : Int) > IntKind.i64.wrap (c - m) then (0 : Int) else IntKind.i64.wrap (c - m))], DV.int .i64 0])
 else
 some
 (DV.tuple
 [DV.agg [DV.int .i64 (IntKind.i64.wrap (a + IntKind.i64.wrap ((0 : Int) - m))), DV.int .i64 b, DV.int .i64 c], DV.int .i64 0])) :=
  (show FK tab noSp lsp0 L (n+8) 12 [.agg [.int .i64 a, .int .i64 b, .int .i64 c], .int .i64 m, .int .i64 k] =
 (cond (bif bif decide (IntKind.i64.wrap ((0 : Int) - m) > (0 : Int)) then decide (a > IntKind.i64.wrap ((9223372036854775807 : Int) - IntKind.i64.wrap ((0 : Int) - m))) else false then true else bif decide (IntKind.i64.wrap ((0 : Int) - m) < (0 : Int)) then decide (a < IntKind.i64.wrap ((-9223372036854775808 : Int) - IntKind.i64.wrap ((0 : Int) - m))) else false)
 (some (.tuple [(.agg [(.int .i64 a), (.int .i64 b), (.int .i64 c)]), (.int .i64 ((8 : Int)))]))
 (cond (bif !true then true else !bif bif bif bif bif decide (IntKind.i64.wrap (a + IntKind.i64.wrap ((0 : Int) - m)) > (-4611686018427387904 : Int)) then decide (IntKind.i64.wrap (a + IntKind.i64.wrap ((0 : Int) - m)) < (4611686018427387904 : Int)) else false then decide (b ≥ (0 : Int)) else false then decide (b ≤ (2305843009213693952 : Int)) else false then decide (c ≥ (0 : Int)) else false then decide (c ≤ (2305843009213693952 : Int)) else false)
 (some (.tuple [(.agg [(.int .i64 a), (.int .i64 b), (.int .i64 c)]), (.int .i64 ((8 : Int)))]))
 (cond (bif k == (1 : Int) then true else k == (2 : Int))
 (some (.tuple [(.agg [(.int .i64 (IntKind.i64.wrap (a + IntKind.i64.wrap ((0 : Int) - m)))), (.int .i64 b), (.int .i64 (if (0 : Int) > IntKind.i64.wrap (c - m) then (0 : Int) else IntKind.i64.wrap (c - m)))]), (.int .i64 ((0 : Int)))]))
 (some (.tuple [(.agg [(.int .i64 (IntKind.i64.wrap (a + IntKind.i64.wrap ((0 : Int) - m)))), (.int .i64 b), (.int .i64 c)]), (.int .i64 ((0 : Int)))]))))) from by kernel_rfl).trans (by first | rfl | (simp only [decide_true, decide_false, eq_self, and_true, true_and, and_self, cond_true, cond_false, Nat.le_refl, Int.le_refl, Option.getD_some, Option.getD_none, Int.toNat_natCast, List.take_length, List.drop_zero, Nat.zero_add, List.nil_append, List.all_nil, List.append_nil, Bool.true_and, Bool.and_true, rowsA_sla, rowsA_sl, rowsA_nil, minus_zero, nat_le_cast, nat_nonneg, Option.isSome_some, Option.isSome_none, Bool.false_eq_true, false_and, and_false, if_true, if_false, implies_true, Int.toNat_zero, Bool.not_false, Bool.not_true, bne_self_eq_false]; done) | (simp only [decide_true, decide_false, eq_self, and_true, true_and, and_self, cond_true, cond_false, Nat.le_refl, Int.le_refl, Option.getD_some, Option.getD_none, Int.toNat_natCast, List.take_length, List.drop_zero, Nat.zero_add, List.nil_append, List.all_nil, List.append_nil, Bool.true_and, Bool.and_true, rowsA_sla, rowsA_sl, rowsA_nil, minus_zero, nat_le_cast, nat_nonneg, Option.isSome_some, Option.isSome_none, Bool.false_eq_true, false_and, and_false, if_true, if_false, implies_true, Int.toNat_zero, Bool.not_false, Bool.not_true, bne_self_eq_false]; rfl))
theorem t17 (L n : Nat) (a b c k m : Int) : FK tab noSp lsp0 L (n+8) 17 [.agg [.int .i64 a, .int .i64 b, .int .i64 c], .int .i64 m, .int .i64 k] =
   (bif
 bif
 bif decide (IntKind.i64.wrap ((0 : Int) - m) > (0 : Int)) then
 decide (a > IntKind.i64.wrap ((9223372036854775807 : Int) - IntKind.i64.wrap ((0 : Int) - m)))
 else false then
 true
 else
 bif decide (IntKind.i64.wrap ((0 : Int) - m) < (0 : Int)) then
 decide (a < IntKind.i64.wrap ((-9223372036854775808 : Int) - IntKind.i64.wrap ((0 : Int) - m)))
 else false then
 bif bif k == (1 : Int) then true else k == (2 : Int) then
 bif decide (m ≥ c) then some (DV.tuple [DV.agg [DV.int .i64 a, DV.int .i64 b, DV.int .i64 c], DV.int .i64 8])
 else some (DV.tuple [DV.agg [DV.int .i64 a, DV.int .i64 b, DV.int .i64 c], DV.int .i64 8])
 else some (DV.tuple [DV.agg [DV.int .i64 a, DV.int .i64 b, DV.int .i64 c], DV.int .i64 8])
 else
 bif bif k == (1 : Int) then true else k == (2 : Int) then
 bif decide (m ≥ c) then
 bif
 !bif
 bif
 bif
 bif
 bif decide (IntKind.i64.wrap (a + IntKind.i64.wrap ((0 : Int) - m)) > (-4611686018427387904 : Int)) then
 decide (IntKind.i64.wrap (a + IntKind.i64.wrap ((0 : Int) - m)) < (4611686018427387904 : Int))
 else false then
 decide (b ≥ (0 : Int))
 else false then
 decide (b ≤ (2305843009213693952 : Int))
 else false then
 true
 else false then
 true
 else false then
 some (DV.tuple [DV.agg [DV.int .i64 a, DV.int .i64 b, DV.int .i64 c], DV.int .i64 8])
 else
 some
 (DV.tuple
 [DV.agg [DV.int .i64 (IntKind.i64.wrap (a + IntKind.i64.wrap ((0 : Int) - m))), DV.int .i64 b, DV.int .i64 0], DV.int .i64 0])
 else
 bif
 !bif
 bif
 bif
 bif
 bif decide (IntKind.i64.wrap (a + IntKind.i64.wrap ((0 : Int) - m)) > (-4611686018427387904 : Int)) then
 decide (IntKind.i64.wrap (a + IntKind.i64.wrap ((0 : Int) - m)) < (4611686018427387904 : Int))
 else false then
 decide (b ≥ (0 : Int))
 else false then
 decide (b ≤ (2305843009213693952 : Int))
 else false then
 decide (IntKind.i64.wrap (c - m) ≥ (0 : Int))
 else false then
 decide (IntKind.i64.wrap (c - m) ≤ (2305843009213693952 : Int))
 else false then
 some (DV.tuple [DV.agg [DV.int .i64 a, DV.int .i64 b, DV.int .i64 c], DV.int .i64 8])
 else
 some
 (DV.tuple
 [DV.agg
 [DV.int .i64 (IntKind.i64.wrap (a + IntKind.i64.wrap ((0 : Int) - m))), DV.int .i64 b, DV.int .i64 (IntKind.i64.wrap (c - m))], DV.int .i64 0])
 else
 bif
 !bif
 bif
 bif
 bif
 bif decide (IntKind.i64.wrap (a + IntKind.i64.wrap ((0 : Int) - m)) > (-4611686018427387904 : Int)) then
 decide (IntKind.i64.wrap (a + IntKind.i64.wrap ((0 : Int) - m)) < (4611686018427387904 : Int))
 else false then
 decide (b ≥ (0 : Int))
 else false then
 decide (b ≤ (2305843009213693952 : Int))
 else false then
 decide (c ≥ (0 : Int))
 else false then
 decide (c ≤ (2305843009213693952 : Int))
 else false then
 some (DV.tuple [DV.agg [DV.int .i64 a, DV.int .i64 b, DV.int .i64 c], DV.int .i64 8])
 else
 some
 (DV.tuple
 [DV.agg [DV.int .i64 (IntKind.i64.wrap (a + IntKind.i64.wrap ((0 : Int) - m))), DV.int .i64 b, DV.int .i64 c], DV.int .i64 0])) :=
  (show FK tab noSp lsp0 L (n+8) 17 [.agg [.int .i64 a, .int .i64 b, .int .i64 c], .int .i64 m, .int .i64 k] =
 (cond (bif bif decide (IntKind.i64.wrap ((0 : Int) - m) > (0 : Int)) then decide (a > IntKind.i64.wrap ((9223372036854775807 : Int) - IntKind.i64.wrap ((0 : Int) - m))) else false then true else bif decide (IntKind.i64.wrap ((0 : Int) - m) < (0 : Int)) then decide (a < IntKind.i64.wrap ((-9223372036854775808 : Int) - IntKind.i64.wrap ((0 : Int) - m))) else false)
 (cond (bif k == (1 : Int) then true else k == (2 : Int))
 (cond (decide (m ≥ c))
 (some (.tuple [(.agg [(.int .i64 a), (.int .i64 b), (.int .i64 c)]), (.int .i64 ((8 : Int)))]))
 (some (.tuple [(.agg [(.int .i64 a), (.int .i64 b), (.int .i64 c)]), (.int .i64 ((8 : Int)))])))
 (some (.tuple [(.agg [(.int .i64 a), (.int .i64 b), (.int .i64 c)]), (.int .i64 ((8 : Int)))])))
 (cond (bif k == (1 : Int) then true else k == (2 : Int))
 (cond (decide (m ≥ c))
 (cond (bif !true then true else !bif bif bif bif bif decide (IntKind.i64.wrap (a + IntKind.i64.wrap ((0 : Int) - m)) > (-4611686018427387904 : Int)) then decide (IntKind.i64.wrap (a + IntKind.i64.wrap ((0 : Int) - m)) < (4611686018427387904 : Int)) else false then decide (b ≥ (0 : Int)) else false then decide (b ≤ (2305843009213693952 : Int)) else false then decide ((0 : Int) ≥ (0 : Int)) else false then decide ((0 : Int) ≤ (2305843009213693952 : Int)) else false)
 (some (.tuple [(.agg [(.int .i64 a), (.int .i64 b), (.int .i64 c)]), (.int .i64 ((8 : Int)))]))
 (some (.tuple [(.agg [(.int .i64 (IntKind.i64.wrap (a + IntKind.i64.wrap ((0 : Int) - m)))), (.int .i64 b), (.int .i64 ((0 : Int)))]), (.int .i64 ((0 : Int)))])))
 (cond (bif !true then true else !bif bif bif bif bif decide (IntKind.i64.wrap (a + IntKind.i64.wrap ((0 : Int) - m)) > (-4611686018427387904 : Int)) then decide (IntKind.i64.wrap (a + IntKind.i64.wrap ((0 : Int) - m)) < (4611686018427387904 : Int)) else false then decide (b ≥ (0 : Int)) else false then decide (b ≤ (2305843009213693952 : Int)) else false then decide (IntKind.i64.wrap (c - m) ≥ (0 : Int)) else false then decide (IntKind.i64.wrap (c - m) ≤ (2305843009213693952 : Int)) else false)
 (some (.tuple [(.agg [(.int .i64 a), (.int .i64 b), (.int .i64 c)]), (.int .i64 ((8 : Int)))]))
 (some (.tuple [(.agg [(.int .i64 (IntKind.i64.wrap (a + IntKind.i64.wrap ((0 : Int) - m)))), (.int .i64 b), (.int .i64 (IntKind.i64.wrap (c - m)))]), (.int .i64 ((0 : Int)))]))))
 (cond (bif !true then true else !bif bif bif bif bif decide (IntKind.i64.wrap (a + IntKind.i64.wrap ((0 : Int) - m)) > (-4611686018427387904 : Int)) then decide (IntKind.i64.wrap (a + IntKind.i64.wrap ((0 : Int) - m)) < (4611686018427387904 : Int)) else false then decide (b ≥ (0 : Int)) else false then decide (b ≤ (2305843009213693952 : Int)) else false then decide (c ≥ (0 : Int)) else false then decide (c ≤ (2305843009213693952 : Int)) else false)
 (some (.tuple [(.agg [(.int .i64 a), (.int .i64 b), (.int .i64 c)]), (.int .i64 ((8 : Int)))]))
 (some (.tuple [(.agg [(.int .i64 (IntKind.i64.wrap (a + IntKind.i64.wrap ((0 : Int) - m)))), (.int .i64 b), (.int .i64 c)]), (.int .i64 ((0 : Int)))]))))) from by kernel_rfl).trans (by first | rfl | (simp only [decide_true, decide_false, eq_self, and_true, true_and, and_self, cond_true, cond_false, Nat.le_refl, Int.le_refl, Option.getD_some, Option.getD_none, Int.toNat_natCast, List.take_length, List.drop_zero, Nat.zero_add, List.nil_append, List.all_nil, List.append_nil, Bool.true_and, Bool.and_true, rowsA_sla, rowsA_sl, rowsA_nil, minus_zero, nat_le_cast, nat_nonneg, Option.isSome_some, Option.isSome_none, Bool.false_eq_true, false_and, and_false, if_true, if_false, implies_true, Int.toNat_zero, Bool.not_false, Bool.not_true, bne_self_eq_false]; done) | (simp only [decide_true, decide_false, eq_self, and_true, true_and, and_self, cond_true, cond_false, Nat.le_refl, Int.le_refl, Option.getD_some, Option.getD_none, Int.toNat_natCast, List.take_length, List.drop_zero, Nat.zero_add, List.nil_append, List.all_nil, List.append_nil, Bool.true_and, Bool.and_true, rowsA_sla, rowsA_sl, rowsA_nil, minus_zero, nat_le_cast, nat_nonneg, Option.isSome_some, Option.isSome_none, Bool.false_eq_true, false_and, and_false, if_true, if_false, implies_true, Int.toNat_zero, Bool.not_false, Bool.not_true, bne_self_eq_false]; rfl))
theorem t15 (L n : Nat) (a b c m : Int) : FK tab noSp lsp0 L (n+8) 15 [.agg [.int .i64 a, .int .i64 b, .int .i64 c], .int .i64 m] =
   (bif
 bif bif decide (m > (0 : Int)) then decide (a > IntKind.i64.wrap ((9223372036854775807 : Int) - m)) else false then true
 else bif decide (m < (0 : Int)) then decide (a < IntKind.i64.wrap ((-9223372036854775808 : Int) - m)) else false then
 some (DV.tuple [DV.agg [DV.int .i64 a, DV.int .i64 b, DV.int .i64 c], DV.int .i64 8])
 else
 bif
 !bif
 bif
 bif
 bif
 bif decide (IntKind.i64.wrap (a + m) > (-4611686018427387904 : Int)) then
 decide (IntKind.i64.wrap (a + m) < (4611686018427387904 : Int))
 else false then
 decide (b ≥ (0 : Int))
 else false then
 decide (b ≤ (2305843009213693952 : Int))
 else false then
 decide (c ≥ (0 : Int))
 else false then
 decide (c ≤ (2305843009213693952 : Int))
 else false then
 some (DV.tuple [DV.agg [DV.int .i64 a, DV.int .i64 b, DV.int .i64 c], DV.int .i64 8])
 else some (DV.tuple [DV.agg [DV.int .i64 (IntKind.i64.wrap (a + m)), DV.int .i64 b, DV.int .i64 c], DV.int .i64 0])) :=
  (show FK tab noSp lsp0 L (n+8) 15 [.agg [.int .i64 a, .int .i64 b, .int .i64 c], .int .i64 m] =
 (cond (bif bif decide (m > (0 : Int)) then decide (a > IntKind.i64.wrap ((9223372036854775807 : Int) - m)) else false then true else bif decide (m < (0 : Int)) then decide (a < IntKind.i64.wrap ((-9223372036854775808 : Int) - m)) else false)
 (some (.tuple [(.agg [(.int .i64 a), (.int .i64 b), (.int .i64 c)]), (.int .i64 ((8 : Int)))]))
 (cond (bif !true then true else !bif bif bif bif bif decide (IntKind.i64.wrap (a + m) > (-4611686018427387904 : Int)) then decide (IntKind.i64.wrap (a + m) < (4611686018427387904 : Int)) else false then decide (b ≥ (0 : Int)) else false then decide (b ≤ (2305843009213693952 : Int)) else false then decide (c ≥ (0 : Int)) else false then decide (c ≤ (2305843009213693952 : Int)) else false)
 (some (.tuple [(.agg [(.int .i64 a), (.int .i64 b), (.int .i64 c)]), (.int .i64 ((8 : Int)))]))
 (some (.tuple [(.agg [(.int .i64 (IntKind.i64.wrap (a + m))), (.int .i64 b), (.int .i64 c)]), (.int .i64 ((0 : Int)))])))) from by kernel_rfl).trans (by first | rfl | (simp only [decide_true, decide_false, eq_self, and_true, true_and, and_self, cond_true, cond_false, Nat.le_refl, Int.le_refl, Option.getD_some, Option.getD_none, Int.toNat_natCast, List.take_length, List.drop_zero, Nat.zero_add, List.nil_append, List.all_nil, List.append_nil, Bool.true_and, Bool.and_true, rowsA_sla, rowsA_sl, rowsA_nil, minus_zero, nat_le_cast, nat_nonneg, Option.isSome_some, Option.isSome_none, Bool.false_eq_true, false_and, and_false, if_true, if_false, implies_true, Int.toNat_zero, Bool.not_false, Bool.not_true, bne_self_eq_false]; done) | (simp only [decide_true, decide_false, eq_self, and_true, true_and, and_self, cond_true, cond_false, Nat.le_refl, Int.le_refl, Option.getD_some, Option.getD_none, Int.toNat_natCast, List.take_length, List.drop_zero, Nat.zero_add, List.nil_append, List.all_nil, List.append_nil, Bool.true_and, Bool.and_true, rowsA_sla, rowsA_sl, rowsA_nil, minus_zero, nat_le_cast, nat_nonneg, Option.isSome_some, Option.isSome_none, Bool.false_eq_true, false_and, and_false, if_true, if_false, implies_true, Int.toNat_zero, Bool.not_false, Bool.not_true, bne_self_eq_false]; rfl))
theorem t16 (L n : Nat) (a b c m : Int) : FK tab noSp lsp0 L (n+8) 16 [.agg [.int .i64 a, .int .i64 b, .int .i64 c], .int .i64 m] =
   (bif
 bif bif decide (m > (0 : Int)) then decide (a > IntKind.i64.wrap ((9223372036854775807 : Int) - m)) else false then true
 else bif decide (m < (0 : Int)) then decide (a < IntKind.i64.wrap ((-9223372036854775808 : Int) - m)) else false then
 some (DV.tuple [DV.agg [DV.int .i64 a, DV.int .i64 b, DV.int .i64 c], DV.int .i64 8])
 else
 bif
 !bif
 bif
 bif
 bif
 bif decide (IntKind.i64.wrap (a + m) > (-4611686018427387904 : Int)) then
 decide (IntKind.i64.wrap (a + m) < (4611686018427387904 : Int))
 else false then
 decide (b ≥ (0 : Int))
 else false then
 decide (b ≤ (2305843009213693952 : Int))
 else false then
 decide (c ≥ (0 : Int))
 else false then
 decide (c ≤ (2305843009213693952 : Int))
 else false then
 some (DV.tuple [DV.agg [DV.int .i64 a, DV.int .i64 b, DV.int .i64 c], DV.int .i64 8])
 else some (DV.tuple [DV.agg [DV.int .i64 (IntKind.i64.wrap (a + m)), DV.int .i64 b, DV.int .i64 c], DV.int .i64 0])) :=
  (show FK tab noSp lsp0 L (n+8) 16 [.agg [.int .i64 a, .int .i64 b, .int .i64 c], .int .i64 m] =
 (cond (bif bif decide (m > (0 : Int)) then decide (a > IntKind.i64.wrap ((9223372036854775807 : Int) - m)) else false then true else bif decide (m < (0 : Int)) then decide (a < IntKind.i64.wrap ((-9223372036854775808 : Int) - m)) else false)
 (some (.tuple [(.agg [(.int .i64 a), (.int .i64 b), (.int .i64 c)]), (.int .i64 ((8 : Int)))]))
 (cond (bif !true then true else !bif bif bif bif bif decide (IntKind.i64.wrap (a + m) > (-4611686018427387904 : Int)) then decide (IntKind.i64.wrap (a + m) < (4611686018427387904 : Int)) else false then decide (b ≥ (0 : Int)) else false then decide (b ≤ (2305843009213693952 : Int)) else false then decide (c ≥ (0 : Int)) else false then decide (c ≤ (2305843009213693952 : Int)) else false)
 (some (.tuple [(.agg [(.int .i64 a), (.int .i64 b), (.int .i64 c)]), (.int .i64 ((8 : Int)))]))
 (some (.tuple [(.agg [(.int .i64 (IntKind.i64.wrap (a + m))), (.int .i64 b), (.int .i64 c)]), (.int .i64 ((0 : Int)))])))) from by kernel_rfl).trans (by first | rfl | (simp only [decide_true, decide_false, eq_self, and_true, true_and, and_self, cond_true, cond_false, Nat.le_refl, Int.le_refl, Option.getD_some, Option.getD_none, Int.toNat_natCast, List.take_length, List.drop_zero, Nat.zero_add, List.nil_append, List.all_nil, List.append_nil, Bool.true_and, Bool.and_true, rowsA_sla, rowsA_sl, rowsA_nil, minus_zero, nat_le_cast, nat_nonneg, Option.isSome_some, Option.isSome_none, Bool.false_eq_true, false_and, and_false, if_true, if_false, implies_true, Int.toNat_zero, Bool.not_false, Bool.not_true, bne_self_eq_false]; done) | (simp only [decide_true, decide_false, eq_self, and_true, true_and, and_self, cond_true, cond_false, Nat.le_refl, Int.le_refl, Option.getD_some, Option.getD_none, Int.toNat_natCast, List.take_length, List.drop_zero, Nat.zero_add, List.nil_append, List.all_nil, List.append_nil, Bool.true_and, Bool.and_true, rowsA_sla, rowsA_sl, rowsA_nil, minus_zero, nat_le_cast, nat_nonneg, Option.isSome_some, Option.isSome_none, Bool.false_eq_true, false_and, and_false, if_true, if_false, implies_true, Int.toNat_zero, Bool.not_false, Bool.not_true, bne_self_eq_false]; rfl))
theorem t19 (L n : Nat) (a b c m : Int) : FK tab noSp lsp0 L (n+8) 19 [.agg [.int .i64 a, .int .i64 b, .int .i64 c], .int .i64 m] =
   (some (DV.int .i64 (if (0 : Int) > IntKind.i64.wrap (c - m) then (0 : Int) else IntKind.i64.wrap (c - m)))) :=
  (show FK tab noSp lsp0 L (n+8) 19 [.agg [.int .i64 a, .int .i64 b, .int .i64 c], .int .i64 m] =
 (some (.int .i64 (if (0 : Int) > IntKind.i64.wrap (c - m) then (0 : Int) else IntKind.i64.wrap (c - m)))) from by kernel_rfl).trans (by first | rfl | (simp only [decide_true, decide_false, eq_self, and_true, true_and, and_self, cond_true, cond_false, Nat.le_refl, Int.le_refl, Option.getD_some, Option.getD_none, Int.toNat_natCast, List.take_length, List.drop_zero, Nat.zero_add, List.nil_append, List.all_nil, List.append_nil, Bool.true_and, Bool.and_true, rowsA_sla, rowsA_sl, rowsA_nil, minus_zero, nat_le_cast, nat_nonneg, Option.isSome_some, Option.isSome_none, Bool.false_eq_true, false_and, and_false, if_true, if_false, implies_true, Int.toNat_zero, Bool.not_false, Bool.not_true, bne_self_eq_false]; done) | (simp only [decide_true, decide_false, eq_self, and_true, true_and, and_self, cond_true, cond_false, Nat.le_refl, Int.le_refl, Option.getD_some, Option.getD_none, Int.toNat_natCast, List.take_length, List.drop_zero, Nat.zero_add, List.nil_append, List.all_nil, List.append_nil, Bool.true_and, Bool.and_true, rowsA_sla, rowsA_sl, rowsA_nil, minus_zero, nat_le_cast, nat_nonneg, Option.isSome_some, Option.isSome_none, Bool.false_eq_true, false_and, and_false, if_true, if_false, implies_true, Int.toNat_zero, Bool.not_false, Bool.not_true, bne_self_eq_false]; rfl))
theorem t20 (L n : Nat) (a b c m : Int) : FK tab noSp lsp0 L (n+8) 20 [.agg [.int .i64 a, .int .i64 b, .int .i64 c], .int .i64 m] =
   (bif decide (m ≥ c) then some (DV.int .i64 0) else some (DV.int .i64 (IntKind.i64.wrap (c - m)))) :=
  (show FK tab noSp lsp0 L (n+8) 20 [.agg [.int .i64 a, .int .i64 b, .int .i64 c], .int .i64 m] =
 (cond (decide (m ≥ c))
 (some (.int .i64 ((0 : Int))))
 (some (.int .i64 (IntKind.i64.wrap (c - m))))) from by kernel_rfl).trans (by first | rfl | (simp only [decide_true, decide_false, eq_self, and_true, true_and, and_self, cond_true, cond_false, Nat.le_refl, Int.le_refl, Option.getD_some, Option.getD_none, Int.toNat_natCast, List.take_length, List.drop_zero, Nat.zero_add, List.nil_append, List.all_nil, List.append_nil, Bool.true_and, Bool.and_true, rowsA_sla, rowsA_sl, rowsA_nil, minus_zero, nat_le_cast, nat_nonneg, Option.isSome_some, Option.isSome_none, Bool.false_eq_true, false_and, and_false, if_true, if_false, implies_true, Int.toNat_zero, Bool.not_false, Bool.not_true, bne_self_eq_false]; done) | (simp only [decide_true, decide_false, eq_self, and_true, true_and, and_self, cond_true, cond_false, Nat.le_refl, Int.le_refl, Option.getD_some, Option.getD_none, Int.toNat_natCast, List.take_length, List.drop_zero, Nat.zero_add, List.nil_append, List.all_nil, List.append_nil, Bool.true_and, Bool.and_true, rowsA_sla, rowsA_sl, rowsA_nil, minus_zero, nat_le_cast, nat_nonneg, Option.isSome_some, Option.isSome_none, Bool.false_eq_true, false_and, and_false, if_true, if_false, implies_true, Int.toNat_zero, Bool.not_false, Bool.not_true, bne_self_eq_false]; rfl))

/-- an account that may be; a number of the kind -/
def isA (a b c : Int) : Prop := -4611686018427387904 < a ∧ a < 4611686018427387904 ∧ 0 ≤ b ∧ b ≤ 2305843009213693952 ∧ 0 ≤ c ∧ c ≤ 2305843009213693952
def is64 (n : Int) : Prop := -9223372036854775808 ≤ n ∧ n ≤ 9223372036854775807
def trueS : FSpec where
  D ds := ds = []
  val ds := some (.bool true)
def roomI (a b c k : Int) : Int := cond (k == 3) (a + b - c) (a + b)
def roomS : FSpec where
  D ds := ∃ a b c k, ds = [.agg [.int .i64 a, .int .i64 b, .int .i64 c], .int .i64 k] ∧ isA a b c
  val ds := match ds with | [.agg [.int _ a, .int _ b, .int _ c], .int _ k] => some (.int .i64 (roomI a b c k)) | _ => none
def keptI (c m : Int) : Int := cond (decide (m ≥ c)) 0 (c - m)
def keptS : FSpec where
  D ds := ∃ a b c m, ds = [.agg [.int .i64 a, .int .i64 b, .int .i64 c], .int .i64 m] ∧ isA a b c ∧ 0 ≤ m ∧ is64 m
  val ds := match ds with | [.agg [.int _ a, .int _ b, .int _ c], .int _ m] => some (.int .i64 (keptI c m)) | _ => none
def inOk (a m : Int) : Bool := decide (a + m < 4611686018427387904)
def inS : FSpec where
  D ds := ∃ a b c m, ds = [.agg [.int .i64 a, .int .i64 b, .int .i64 c], .int .i64 m] ∧ isA a b c ∧ 0 ≤ m ∧ is64 m
  val ds := match ds with | [.agg [.int _ a, .int _ b, .int _ c], .int _ m] => some (.tuple [.agg [.int .i64 (cond (inOk a m) (a + m) a), .int .i64 b, .int .i64 c], .int .i64 (cond (inOk a m) 0 8)]) | _ => none
def outOk (a m : Int) : Bool := decide (-4611686018427387904 < a - m)
def outS : FSpec where
  D ds := ∃ a b c m k, ds = [.agg [.int .i64 a, .int .i64 b, .int .i64 c], .int .i64 m, .int .i64 k] ∧ isA a b c ∧ 0 ≤ m ∧ is64 m
  val ds := match ds with | [.agg [.int _ a, .int _ b, .int _ c], .int _ m, .int _ k] => some (.tuple [.agg [.int .i64 (cond (outOk a m) (a - m) a), .int .i64 b, .int .i64 (cond (outOk a m && (k == 1 || k == 2)) (keptI c m) c)], .int .i64 (cond (outOk a m) 0 8)]) | _ => none

theorem known9 : trueS.ok Try.prog 13 := fspec_ok (lsp := lsp0) tab_ok noSp_ok fun ds hD => by
  cases hD
  exact ⟨100, 10, by kernel_rfl⟩
theorem room11 : roomS.ok Try.prog 11 := fspec_ok (lsp := lsp0) tab_ok noSp_ok fun ds hD => by
  obtain ⟨a, b, c, k, rfl, h⟩ := hD
  obtain ⟨h1, h2, h3, h4, h5, h6⟩ := h
  refine ⟨100, 0 + 8, (t11 100 0 a b c k).trans ?_⟩
  have w1 : IntKind.i64.wrap (a + b) = a + b := wrap_fits (by omega) (by omega)
  have w2 : IntKind.i64.wrap (a + b - c) = a + b - c := wrap_fits (by omega) (by omega)
  rw [w1, w2]
  simp only [roomS, roomI]
  cases (k == 3) <;> rfl
theorem room18 : roomS.ok Try.prog 18 := fspec_ok (lsp := lsp0) tab_ok noSp_ok fun ds hD => by
  obtain ⟨a, b, c, k, rfl, h⟩ := hD
  obtain ⟨h1, h2, h3, h4, h5, h6⟩ := h
  refine ⟨100, 0 + 8, (t18 100 0 a b c k).trans ?_⟩
  have w1 : IntKind.i64.wrap (a + b) = a + b := wrap_fits (by omega) (by omega)
  have w2 : IntKind.i64.wrap (a + b - c) = a + b - c := wrap_fits (by omega) (by omega)
  rw [w1, w2]
  simp only [roomS, roomI]
  cases (k == 3) <;> rfl
theorem max_kept {c m : Int} : (if (0 : Int) > c - m then 0 else c - m) = keptI c m := by
  unfold keptI
  by_cases h : m ≥ c
  · rw [decide_eq_true h]
    simp only [cond_true]
    split <;> omega
  · rw [decide_eq_false h]
    simp only [cond_false]
    split <;> omega
theorem kept19 : keptS.ok Try.prog 19 := fspec_ok (lsp := lsp0) tab_ok noSp_ok fun ds hD => by
  obtain ⟨a, b, c, m, rfl, h, hm, h64⟩ := hD
  obtain ⟨h1, h2, h3, h4, h5, h6⟩ := h
  obtain ⟨h7, h8⟩ := h64
  refine ⟨100, 0 + 8, (t19 100 0 a b c m).trans ?_⟩
  have w1 : IntKind.i64.wrap (c - m) = c - m := wrap_fits (by omega) (by omega)
  rw [w1, max_kept]
  rfl
theorem kept20 : keptS.ok Try.prog 20 := fspec_ok (lsp := lsp0) tab_ok noSp_ok fun ds hD => by
  obtain ⟨a, b, c, m, rfl, h, hm, h64⟩ := hD
  obtain ⟨h1, h2, h3, h4, h5, h6⟩ := h
  obtain ⟨h7, h8⟩ := h64
  refine ⟨100, 0 + 8, (t20 100 0 a b c m).trans ?_⟩
  have w1 : IntKind.i64.wrap (c - m) = c - m := wrap_fits (by omega) (by omega)
  rw [w1]
  simp only [keptS, keptI]
  cases decide (m ≥ c) <;> rfl
/-- is the sum held? -/
theorem over_eq {a m : Int} (ha : -4611686018427387904 < a) (ha2 : a < 4611686018427387904) (h : is64 m) :
    (bif bif decide (m > (0 : Int)) then decide (a > IntKind.i64.wrap ((9223372036854775807 : Int) - m)) else false then true else bif decide (m < (0 : Int)) then decide (a < IntKind.i64.wrap ((-9223372036854775808 : Int) - m)) else false) =
    decide (¬ (-9223372036854775808 ≤ a + m ∧ a + m ≤ 9223372036854775807)) := by
  obtain ⟨h1, h2⟩ := h
  by_cases c1 : m > 0
  · have w : IntKind.i64.wrap (9223372036854775807 - m) = 9223372036854775807 - m := wrap_fits (by omega) (by omega)
    have c2 : ¬ m < 0 := by omega
    rw [w, decide_eq_true c1, decide_eq_false c2]
    rw [Bool.eq_iff_iff]
    simp
    omega
  · rw [decide_eq_false c1]
    by_cases c2 : m < 0
    · have w : IntKind.i64.wrap (-9223372036854775808 - m) = -9223372036854775808 - m := wrap_fits (by omega) (by omega)
      rw [w, decide_eq_true c2]
      rw [Bool.eq_iff_iff]
      simp
      omega
    · rw [decide_eq_false c2]
      rw [Bool.eq_iff_iff]
      simp
      omega
def isB (a b c : Int) : Bool := bif bif bif bif bif decide (a > (-4611686018427387904 : Int)) then decide (a < (4611686018427387904 : Int)) else false then decide (b ≥ (0 : Int)) else false then decide (b ≤ (2305843009213693952 : Int)) else false then decide (c ≥ (0 : Int)) else false then decide (c ≤ (2305843009213693952 : Int)) else false
theorem isB_iff {a b c : Int} : isB a b c = true ↔ isA a b c := by
  unfold isB isA
  simp
  omega
theorem in_any {a b c m : Int} (h : isA a b c) (hm : 0 ≤ m) (h64 : is64 m) :
    cond (decide (¬ (-9223372036854775808 ≤ a + m ∧ a + m ≤ 9223372036854775807)))
     (some (DV.tuple [(.agg [(.int .i64 a), (.int .i64 b), (.int .i64 c)]), (.int .i64 8)]))
     (cond (!isB (IntKind.i64.wrap (a + m)) b c)
      (some (.tuple [(.agg [(.int .i64 a), (.int .i64 b), (.int .i64 c)]), (.int .i64 8)]))
      (some (.tuple [(.agg [(.int .i64 (IntKind.i64.wrap (a + m))), (.int .i64 b), (.int .i64 c)]), (.int .i64 0)]))) =
    inS.val [.agg [.int .i64 a, .int .i64 b, .int .i64 c], .int .i64 m] := by
  obtain ⟨h1, h2, h3, h4, h5, h6⟩ := h
  obtain ⟨g1, g2⟩ := h64
  simp only [inS, inOk]
  by_cases hs : a + m < 4611686018427387904
  · have w : IntKind.i64.wrap (a + m) = a + m := wrap_fits (by omega) (by omega)
    have hb : isB (a + m) b c = true := isB_iff.2 ⟨by omega, hs, h3, h4, h5, h6⟩
    have hd : ¬ ¬ (-9223372036854775808 ≤ a + m ∧ a + m ≤ 9223372036854775807) := by omega
    rw [decide_eq_true hs, decide_eq_false hd, w, hb]
    rfl
  · rw [decide_eq_false hs]
    by_cases hd : ¬ (-9223372036854775808 ≤ a + m ∧ a + m ≤ 9223372036854775807)
    · rw [decide_eq_true hd]
      rfl
    · have w : IntKind.i64.wrap (a + m) = a + m := wrap_fits (by omega) (by omega)
      have hb : isB (a + m) b c = false := by
        rw [Bool.eq_false_iff]
        intro h
        have := (isB_iff.1 h).2.1
        omega
      rw [decide_eq_false hd, w, hb]
      rfl
theorem in15 : inS.ok Try.prog 15 := fspec_ok (lsp := lsp0) tab_ok noSp_ok fun ds hD => by
  obtain ⟨a, b, c, m, rfl, h, hm, h64⟩ := hD
  refine ⟨100, 0 + 8, (t15 100 0 a b c m).trans ?_⟩
  rw [over_eq h.1 h.2.1 h64]
  exact in_any h hm h64
theorem in16 : inS.ok Try.prog 16 := fspec_ok (lsp := lsp0) tab_ok noSp_ok fun ds hD => by
  obtain ⟨a, b, c, m, rfl, h, hm, h64⟩ := hD
  refine ⟨100, 0 + 8, (t16 100 0 a b c m).trans ?_⟩
  rw [over_eq h.1 h.2.1 h64]
  exact in_any h hm h64
theorem out12 : outS.ok Try.prog 12 := fspec_ok (lsp := lsp0) tab_ok noSp_ok fun ds hD => by
  obtain ⟨a, b, c, m, k, rfl, h, hm, h64⟩ := hD
  refine ⟨100, 0 + 8, (t12 100 0 a b c k m).trans ?_⟩
  obtain ⟨h1, h2, h3, h4, h5, h6⟩ := h
  obtain ⟨g1, g2⟩ := h64
  have w0 : IntKind.i64.wrap (0 - m) = -m := by rw [wrap_fits] <;> omega
  have w1 : IntKind.i64.wrap (c - m) = c - m := wrap_fits (by omega) (by omega)
  rw [w0, over_eq h1 h2 ⟨by omega, by omega⟩, w1, max_kept]
  show cond _ _ (cond (!isB (IntKind.i64.wrap (a + -m)) b c) _ _) = _
  simp only [outS, outOk]
  by_cases hs : -4611686018427387904 < a - m
  · have w : IntKind.i64.wrap (a + -m) = a - m := by rw [wrap_fits] <;> omega
    have hb : isB (a - m) b c = true := isB_iff.2 ⟨by omega, by omega, h3, h4, h5, h6⟩
    have hd : ¬ ¬ (-9223372036854775808 ≤ a + -m ∧ a + -m ≤ 9223372036854775807) := by omega
    rw [decide_eq_true hs, decide_eq_false hd, w, hb]
    cases (k == 1) <;> cases (k == 2) <;> rfl
  · rw [decide_eq_false hs]
    by_cases hd : ¬ (-9223372036854775808 ≤ a + -m ∧ a + -m ≤ 9223372036854775807)
    · rw [decide_eq_true hd]
      rfl
    · have w : IntKind.i64.wrap (a + -m) = a - m := by rw [wrap_fits] <;> omega
      have hb : isB (a - m) b c = false := by
        rw [Bool.eq_false_iff]
        intro h
        have := (isB_iff.1 h).1
        omega
      rw [decide_eq_false hd, w, hb]
      rfl
theorem keptI_fits {c m : Int} (h5 : 0 ≤ c) (h6 : c ≤ 2305843009213693952) (hm : 0 ≤ m) : 0 ≤ keptI c m ∧ keptI c m ≤ c := by
  unfold keptI
  by_cases h : m ≥ c
  · rw [decide_eq_true h]; simp; omega
  · rw [decide_eq_false h]; simp; omega
theorem out17 : outS.ok Try.prog 17 := fspec_ok (lsp := lsp0) tab_ok noSp_ok fun ds hD => by
  obtain ⟨a, b, c, m, k, rfl, h, hm, h64⟩ := hD
  refine ⟨100, 0 + 8, (t17 100 0 a b c k m).trans ?_⟩
  obtain ⟨h1, h2, h3, h4, h5, h6⟩ := h
  obtain ⟨g1, g2⟩ := h64
  have w0 : IntKind.i64.wrap (0 - m) = -m := by rw [wrap_fits] <;> omega
  have w1 : IntKind.i64.wrap (c - m) = c - m := wrap_fits (by omega) (by omega)
  rw [w0, over_eq h1 h2 ⟨by omega, by omega⟩, w1]
  show cond _ (cond _ (cond _ _ _) _) (cond _ (cond _ (cond (!isB (IntKind.i64.wrap (a + -m)) b 0) _ _) (cond (!isB (IntKind.i64.wrap (a + -m)) b (c - m)) _ _)) (cond (!isB (IntKind.i64.wrap (a + -m)) b c) _ _)) = _
  simp only [outS, outOk]
  by_cases hs : -4611686018427387904 < a - m
  · have w : IntKind.i64.wrap (a + -m) = a - m := by rw [wrap_fits] <;> omega
    have hb : isB (a - m) b c = true := isB_iff.2 ⟨by omega, by omega, h3, h4, h5, h6⟩
    have hb0 : isB (a - m) b 0 = true := isB_iff.2 ⟨by omega, by omega, h3, h4, by omega, by omega⟩
    have hd : ¬ ¬ (-9223372036854775808 ≤ a + -m ∧ a + -m ≤ 9223372036854775807) := by omega
    rw [decide_eq_true hs, decide_eq_false hd, w, hb, hb0]
    by_cases hc : m ≥ c
    · simp only [keptI, decide_eq_true hc]
      cases (k == 1) <;> cases (k == 2) <;> rfl
    · have hb1 : isB (a - m) b (c - m) = true := isB_iff.2 ⟨by omega, by omega, h3, h4, by omega, by omega⟩
      simp only [keptI, decide_eq_false hc, hb1]
      cases (k == 1) <;> cases (k == 2) <;> rfl
  · rw [decide_eq_false hs]
    by_cases hd : ¬ (-9223372036854775808 ≤ a + -m ∧ a + -m ≤ 9223372036854775807)
    · rw [decide_eq_true hd]
      cases (k == 1) <;> cases (k == 2) <;> cases decide (m ≥ c) <;> rfl
    · have w : IntKind.i64.wrap (a + -m) = a - m := by rw [wrap_fits] <;> omega
      have hb : ∀ x, isB (a - m) b x = false := fun x => by
        rw [Bool.eq_false_iff]
        intro h
        have := (isB_iff.1 h).1
        omega
      rw [decide_eq_false hd, w, hb, hb, hb]
      cases (k == 1) <;> cases (k == 2) <;> cases decide (m ≥ c) <;> rfl
noncomputable def sp1 : FuncId → Option FSpec := spAdd 13 trueS (spAdd 11 roomS (spAdd 18 roomS (spAdd 19 keptS (spAdd 20 keptS (spAdd 15 inS (spAdd 16 inS (spAdd 12 outS (spAdd 17 outS noSp))))))))
theorem sp1_ok : ∀ f s, sp1 f = some s → s.ok Try.prog f := spAdd_ok known9 (spAdd_ok room11 (spAdd_ok room18 (spAdd_ok kept19 (spAdd_ok kept20 (spAdd_ok in15 (spAdd_ok in16 (spAdd_ok out12 (spAdd_ok out17 noSp_ok))))))))
end Go.Proofs.Ytakapalpcglfaaa
