/- What a price and a number are worth, by the reference's runs. No condition. -/
import Derived.Test.YtianifckopijjaaSg
import Derived.Test.YtianifckopijjaaSc
namespace Go.Proofs.Ytianifckopijjaa
open Go Go.Proofs Go.RowKit Vm
set_option linter.unusedVariables false
set_option linter.unusedSimpArgs false
noncomputable def spR (a b c : Nat) : FuncId → Option FSpec := spAdd 33 (prodS a b) (spAdd 34 (timS (a * b) (10000 - c)) (spAdd 35 (byS (a * b * (10000 - c))) noSp))
theorem t21 (L n : Nat) (A B C : Nat) (a b c : Int) : FK tab (spR A B C) lsp0 L (n+8) 21 [.int .i64 a, .int .i64 b, .int .i64 c] =
   (bif
 bif bif bif decide (a < (0 : Int)) then true else decide (b < (0 : Int)) then true else decide (c < (0 : Int)) then true
 else decide (c > (10000 : Int)) then
 some (DV.tuple [DV.int .i64 0, DV.bool false])
 else
 need ((prodS A B).D [DV.int .i64 a, DV.int .i64 b])
 (need
 ((timS (A * B) ((10000 : Nat) - C)).D
 [DV.mv (2 : TypeId) (1 : Nat)
 [[DV.int .i64 (↑(A * B % (65536 : Nat)) : Int)], [DV.int .i64 (↑(A * B / (65536 : Nat) % (65536 : Nat)) : Int)],
 [DV.int .i64 (↑(A * B / (65536 : Nat) / (65536 : Nat) % (65536 : Nat)) : Int)],
 [DV.int .i64 (↑(A * B / (65536 : Nat) / (65536 : Nat) / (65536 : Nat) % (65536 : Nat)) : Int)],
 [DV.int .i64 (↑(A * B / (65536 : Nat) / (65536 : Nat) / (65536 : Nat) / (65536 : Nat) % (65536 : Nat)) : Int)],
 [DV.int .i64 (↑(A * B / (65536 : Nat) / (65536 : Nat) / (65536 : Nat) / (65536 : Nat) / (65536 : Nat) % (65536 : Nat)) : Int)],
 [DV.int .i64
 (↑(A * B / (65536 : Nat) / (65536 : Nat) / (65536 : Nat) / (65536 : Nat) / (65536 : Nat) / (65536 : Nat) % (65536 : Nat)) : Int)],
 [DV.int .i64
 (↑(A * B / (65536 : Nat) / (65536 : Nat) / (65536 : Nat) / (65536 : Nat) / (65536 : Nat) / (65536 : Nat) / (65536 : Nat) % (65536 : Nat)) :
 Int)],
 [DV.int .i64
 (↑(A * B / (65536 : Nat) / (65536 : Nat) / (65536 : Nat) / (65536 : Nat) / (65536 : Nat) / (65536 : Nat) / (65536 : Nat) / (65536 : Nat)) :
 Int)]], DV.int .i64 (IntKind.i64.wrap ((10000 : Int) - c))])
 (need
 ((byS (A * B * ((10000 : Nat) - C))).D
 [DV.mv (2 : TypeId) (1 : Nat)
 [[DV.int .i64 (↑(A * B * ((10000 : Nat) - C) % (65536 : Nat)) : Int)],
 [DV.int .i64 (↑(A * B * ((10000 : Nat) - C) / (65536 : Nat) % (65536 : Nat)) : Int)],
 [DV.int .i64 (↑(A * B * ((10000 : Nat) - C) / (65536 : Nat) / (65536 : Nat) % (65536 : Nat)) : Int)],
 [DV.int .i64 (↑(A * B * ((10000 : Nat) - C) / (65536 : Nat) / (65536 : Nat) / (65536 : Nat) % (65536 : Nat)) : Int)],
 [DV.int .i64 (↑(A * B * ((10000 : Nat) - C) / (65536 : Nat) / (65536 : Nat) / (65536 : Nat) / (65536 : Nat) % (65536 : Nat)) : Int)],
 [DV.int .i64
 (↑(A * B * ((10000 : Nat) - C) / (65536 : Nat) / (65536 : Nat) / (65536 : Nat) / (65536 : Nat) / (65536 : Nat) % (65536 : Nat)) : Int)],
 [DV.int .i64
 (↑(A * B * ((10000 : Nat) - C) / (65536 : Nat) / (65536 : Nat) / (65536 : Nat) / (65536 : Nat) / (65536 : Nat) / (65536 : Nat) %
 (65536 : Nat)) :
 Int)],
 [DV.int .i64
 (↑(A * B * ((10000 : Nat) - C) / (65536 : Nat) / (65536 : Nat) / (65536 : Nat) / (65536 : Nat) / (65536 : Nat) / (65536 : Nat) /
 (65536 : Nat) %
 (65536 : Nat)) :
 Int)],
 [DV.int .i64
 (↑(A * B * ((10000 : Nat) - C) / (65536 : Nat) / (65536 : Nat) / (65536 : Nat) / (65536 : Nat) / (65536 : Nat) / (65536 : Nat) /
 (65536 : Nat) /
 (65536 : Nat)) :
 Int)]], DV.int .i64 10000])
 (some
 (DV.tuple
 [DV.int .i64
 (bif decide (A * B * ((10000 : Nat) - C) / (10000 : Nat) < (9223372036854775808 : Nat)) then
 (↑(A * B * ((10000 : Nat) - C) / (10000 : Nat)) : Int)
 else (0 : Int)),
 DV.bool (decide (A * B * ((10000 : Nat) - C) / (10000 : Nat) < (9223372036854775808 : Nat)))]))))) :=
  (show FK tab (spR A B C) lsp0 L (n+8) 21 [.int .i64 a, .int .i64 b, .int .i64 c] =
 (cond (bif bif bif decide (a < (0 : Int)) then true else decide (b < (0 : Int)) then true else decide (c < (0 : Int)) then true else decide (c > (10000 : Int)))
 (some (.tuple [(.int .i64 ((0 : Int))), (.bool false)]))
 (need (FSpec.D (prodS A B) [(.int .i64 a), (.int .i64 b)])
 (need (FSpec.D (timS (A * B) ((10000 : Nat) - C)) [(.mv 2 1 [[(.int .i64 ((↑(A * B % (65536 : Nat)) : Int)))], [(.int .i64 ((↑(A * B / (65536 : Nat) % (65536 : Nat)) : Int)))], [(.int .i64 ((↑(A * B / (65536 : Nat) / (65536 : Nat) % (65536 : Nat)) : Int)))], [(.int .i64 ((↑(A * B / (65536 : Nat) / (65536 : Nat) / (65536 : Nat) % (65536 : Nat)) : Int)))], [(.int .i64 ((↑(A * B / (65536 : Nat) / (65536 : Nat) / (65536 : Nat) / (65536 : Nat) % (65536 : Nat)) : Int)))], [(.int .i64 ((↑(A * B / (65536 : Nat) / (65536 : Nat) / (65536 : Nat) / (65536 : Nat) / (65536 : Nat) % (65536 : Nat)) : Int)))], [(.int .i64 ((↑(A * B / (65536 : Nat) / (65536 : Nat) / (65536 : Nat) / (65536 : Nat) / (65536 : Nat) / (65536 : Nat) % (65536 : Nat)) : Int)))], [(.int .i64 ((↑(A * B / (65536 : Nat) / (65536 : Nat) / (65536 : Nat) / (65536 : Nat) / (65536 : Nat) / (65536 : Nat) / (65536 : Nat) % (65536 : Nat)) : Int)))], [(.int .i64 ((↑(A * B / (65536 : Nat) / (65536 : Nat) / (65536 : Nat) / (65536 : Nat) / (65536 : Nat) / (65536 : Nat) / (65536 : Nat) / (65536 : Nat)) : Int)))]]), (.int .i64 (IntKind.i64.wrap ((10000 : Int) - c)))])
 (need (FSpec.D (byS (A * B * ((10000 : Nat) - C))) [(.mv 2 1 [[(.int .i64 ((↑(A * B * ((10000 : Nat) - C) % (65536 : Nat)) : Int)))], [(.int .i64 ((↑(A * B * ((10000 : Nat) - C) / (65536 : Nat) % (65536 : Nat)) : Int)))], [(.int .i64 ((↑(A * B * ((10000 : Nat) - C) / (65536 : Nat) / (65536 : Nat) % (65536 : Nat)) : Int)))], [(.int .i64 ((↑(A * B * ((10000 : Nat) - C) / (65536 : Nat) / (65536 : Nat) / (65536 : Nat) % (65536 : Nat)) : Int)))], [(.int .i64 ((↑(A * B * ((10000 : Nat) - C) / (65536 : Nat) / (65536 : Nat) / (65536 : Nat) / (65536 : Nat) % (65536 : Nat)) : Int)))], [(.int .i64 ((↑(A * B * ((10000 : Nat) - C) / (65536 : Nat) / (65536 : Nat) / (65536 : Nat) / (65536 : Nat) / (65536 : Nat) % (65536 : Nat)) : Int)))], [(.int .i64 ((↑(A * B * ((10000 : Nat) - C) / (65536 : Nat) / (65536 : Nat) / (65536 : Nat) / (65536 : Nat) / (65536 : Nat) / (65536 : Nat) % (65536 : Nat)) : Int)))], [(.int .i64 ((↑(A * B * ((10000 : Nat) - C) / (65536 : Nat) / (65536 : Nat) / (65536 : Nat) / (65536 : Nat) / (65536 : Nat) / (65536 : Nat) / (65536 : Nat) % (65536 : Nat)) : Int)))], [(.int .i64 ((↑(A * B * ((10000 : Nat) - C) / (65536 : Nat) / (65536 : Nat) / (65536 : Nat) / (65536 : Nat) / (65536 : Nat) / (65536 : Nat) / (65536 : Nat) / (65536 : Nat)) : Int)))]]), (.int .i64 ((10000 : Int)))])
 (some (.tuple [(.int .i64 (bif decide (A * B * ((10000 : Nat) - C) / (10000 : Nat) < (9223372036854775808 : Nat)) then (↑(A * B * ((10000 : Nat) - C) / (10000 : Nat)) : Int) else (0 : Int))), (.bool (decide (A * B * ((10000 : Nat) - C) / (10000 : Nat) < (9223372036854775808 : Nat))))])))))) from by kernel_rfl).trans (by first | rfl | (simp only [decide_true, decide_false, eq_self, and_true, true_and, and_self, cond_true, cond_false, Nat.le_refl, Int.le_refl, Option.getD_some, Option.getD_none, Int.toNat_natCast, List.take_length, List.drop_zero, Nat.zero_add, List.nil_append, List.all_nil, List.append_nil, Bool.true_and, Bool.and_true, rowsA_sla, rowsA_sl, rowsA_nil, minus_zero, nat_le_cast, nat_nonneg, Option.isSome_some, Option.isSome_none, Bool.false_eq_true, false_and, and_false, if_true, if_false, implies_true, Int.toNat_zero, Bool.not_false, Bool.not_true, bne_self_eq_false]; done) | (simp only [decide_true, decide_false, eq_self, and_true, true_and, and_self, cond_true, cond_false, Nat.le_refl, Int.le_refl, Option.getD_some, Option.getD_none, Int.toNat_natCast, List.take_length, List.drop_zero, Nat.zero_add, List.nil_append, List.all_nil, List.append_nil, Bool.true_and, Bool.and_true, rowsA_sla, rowsA_sl, rowsA_nil, minus_zero, nat_le_cast, nat_nonneg, Option.isSome_some, Option.isSome_none, Bool.false_eq_true, false_and, and_false, if_true, if_false, implies_true, Int.toNat_zero, Bool.not_false, Bool.not_true, bne_self_eq_false]; rfl))
theorem t19 (L n : Nat) (a b : Int) : FK tab noSp lsp0 L (n+8) 19 [.int .i64 a, .int .i64 b] =
   (bif
 bif bif decide (b > (0 : Int)) then decide (a > IntKind.i64.wrap ((9223372036854775807 : Int) - b)) else false then true
 else bif decide (b < (0 : Int)) then decide (a < IntKind.i64.wrap ((-9223372036854775808 : Int) - b)) else false then
 some (DV.tuple [DV.int .i64 0, DV.bool false])
 else some (DV.tuple [DV.int .i64 (IntKind.i64.wrap (a + b)), DV.bool true])) :=
  (show FK tab noSp lsp0 L (n+8) 19 [.int .i64 a, .int .i64 b] =
 (cond (bif bif decide (b > (0 : Int)) then decide (a > IntKind.i64.wrap ((9223372036854775807 : Int) - b)) else false then true else bif decide (b < (0 : Int)) then decide (a < IntKind.i64.wrap ((-9223372036854775808 : Int) - b)) else false)
 (some (.tuple [(.int .i64 ((0 : Int))), (.bool false)]))
 (some (.tuple [(.int .i64 (IntKind.i64.wrap (a + b))), (.bool true)]))) from by kernel_rfl).trans (by first | rfl | (simp only [decide_true, decide_false, eq_self, and_true, true_and, and_self, cond_true, cond_false, Nat.le_refl, Int.le_refl, Option.getD_some, Option.getD_none, Int.toNat_natCast, List.take_length, List.drop_zero, Nat.zero_add, List.nil_append, List.all_nil, List.append_nil, Bool.true_and, Bool.and_true, rowsA_sla, rowsA_sl, rowsA_nil, minus_zero, nat_le_cast, nat_nonneg, Option.isSome_some, Option.isSome_none, Bool.false_eq_true, false_and, and_false, if_true, if_false, implies_true, Int.toNat_zero, Bool.not_false, Bool.not_true, bne_self_eq_false]; done) | (simp only [decide_true, decide_false, eq_self, and_true, true_and, and_self, cond_true, cond_false, Nat.le_refl, Int.le_refl, Option.getD_some, Option.getD_none, Int.toNat_natCast, List.take_length, List.drop_zero, Nat.zero_add, List.nil_append, List.all_nil, List.append_nil, Bool.true_and, Bool.and_true, rowsA_sla, rowsA_sl, rowsA_nil, minus_zero, nat_le_cast, nat_nonneg, Option.isSome_some, Option.isSome_none, Bool.false_eq_true, false_and, and_false, if_true, if_false, implies_true, Int.toNat_zero, Bool.not_false, Bool.not_true, bne_self_eq_false]; rfl))
theorem t20 (L n : Nat) (a b : Int) : FK tab noSp lsp0 L (n+8) 20 [.int .i64 a, .int .i64 b] =
   (bif
 bif bif decide (b > (0 : Int)) then decide (a > IntKind.i64.wrap ((9223372036854775807 : Int) - b)) else false then true
 else bif decide (b < (0 : Int)) then decide (a < IntKind.i64.wrap ((-9223372036854775808 : Int) - b)) else false then
 some (DV.tuple [DV.int .i64 0, DV.bool false])
 else some (DV.tuple [DV.int .i64 (IntKind.i64.wrap (a + b)), DV.bool true])) :=
  (show FK tab noSp lsp0 L (n+8) 20 [.int .i64 a, .int .i64 b] =
 (cond (bif bif decide (b > (0 : Int)) then decide (a > IntKind.i64.wrap ((9223372036854775807 : Int) - b)) else false then true else bif decide (b < (0 : Int)) then decide (a < IntKind.i64.wrap ((-9223372036854775808 : Int) - b)) else false)
 (some (.tuple [(.int .i64 ((0 : Int))), (.bool false)]))
 (some (.tuple [(.int .i64 (IntKind.i64.wrap (a + b))), (.bool true)]))) from by kernel_rfl).trans (by first | rfl | (simp only [decide_true, decide_false, eq_self, and_true, true_and, and_self, cond_true, cond_false, Nat.le_refl, Int.le_refl, Option.getD_some, Option.getD_none, Int.toNat_natCast, List.take_length, List.drop_zero, Nat.zero_add, List.nil_append, List.all_nil, List.append_nil, Bool.true_and, Bool.and_true, rowsA_sla, rowsA_sl, rowsA_nil, minus_zero, nat_le_cast, nat_nonneg, Option.isSome_some, Option.isSome_none, Bool.false_eq_true, false_and, and_false, if_true, if_false, implies_true, Int.toNat_zero, Bool.not_false, Bool.not_true, bne_self_eq_false]; done) | (simp only [decide_true, decide_false, eq_self, and_true, true_and, and_self, cond_true, cond_false, Nat.le_refl, Int.le_refl, Option.getD_some, Option.getD_none, Int.toNat_natCast, List.take_length, List.drop_zero, Nat.zero_add, List.nil_append, List.all_nil, List.append_nil, Bool.true_and, Bool.and_true, rowsA_sla, rowsA_sl, rowsA_nil, minus_zero, nat_le_cast, nat_nonneg, Option.isSome_some, Option.isSome_none, Bool.false_eq_true, false_and, and_false, if_true, if_false, implies_true, Int.toNat_zero, Bool.not_false, Bool.not_true, bne_self_eq_false]; rfl))

theorem worth21v : worthV.ok Try.prog 21 := fun ds r hD hv => by
  obtain ⟨a, b, c, rfl, ha, hb, hc⟩ := hD
  simp only [is64] at ha hb hc
  by_cases hg : 0 ≤ a ∧ 0 ≤ b ∧ 0 ≤ c ∧ c ≤ 10000
  · obtain ⟨A, rfl⟩ : ∃ A : Nat, a = (A : Int) := ⟨a.toNat, by omega⟩
    obtain ⟨B, rfl⟩ : ∃ B : Nat, b = (B : Int) := ⟨b.toNat, by omega⟩
    obtain ⟨C, rfl⟩ : ∃ C : Nat, c = (C : Int) := ⟨c.toNat, by omega⟩
    have hAB : A * B ≤ 9223372036854775807 * 9223372036854775807 := Nat.mul_le_mul (by omega) (by omega)
    have hABC : A * B * (10000 - C) ≤ 9223372036854775807 * 9223372036854775807 * 10000 := Nat.mul_le_mul hAB (by omega)
    have hok : ∀ f s, spR A B C f = some s → s.ok Try.prog f := spAdd_ok (prod33 A B (by omega) (by omega)) (spAdd_ok (tim34 (A * B) (10000 - C) (by omega) (by omega)) (spAdd_ok (by35 (A * B * (10000 - C)) (by omega)) noSp_ok))
    refine (of_FK tab_ok hok (L := 20) (n := 0 + 8) ((t21 20 0 A B C A B C).trans ?_)).x
    refine cond_of (fun h => ?_) (fun _ => ?_)
    · exfalso
      simp at h
      omega
    · refine (need_pos rfl).trans ?_
      refine (need_pos ?_).trans ?_
      · show _ = _
        rw [show IntKind.i64.wrap ((10000 : Int) - (C : Int)) = ((10000 - C : Nat) : Int) by rw [wrap_fits] <;> omega]
        rfl
      refine (need_pos rfl).trans ?_
      rw [← hv]
      have hw : wI (A : Int) (B : Int) (C : Int) = ((A * B * (10000 - C) / 10000 : Nat) : Int) := by
        unfold wI
        rw [show (10000 : Int) - (C : Int) = ((10000 - C : Nat) : Int) by omega]
        rfl
      have hd : decide (A * B * (10000 - C) / 10000 < 9223372036854775808) = wOk (A : Int) (B : Int) (C : Int) := by
        unfold wOk
        rw [hw]
        by_cases hlt : A * B * (10000 - C) / 10000 < 9223372036854775808
        · rw [decide_eq_true hlt, decide_eq_true (by omega)]
        · rw [decide_eq_false hlt, decide_eq_false (by omega)]
      simp only [worthV, hw, hd]
  · have hok : ∀ f s, spR 0 0 0 f = some s → s.ok Try.prog f := spAdd_ok (prod33 0 0 (by omega) (by omega)) (spAdd_ok (tim34 (0 * 0) (10000 - 0) (by omega) (by omega)) (spAdd_ok (by35 (0 * 0 * (10000 - 0)) (by omega)) noSp_ok))
    refine (of_FK tab_ok hok (L := 20) (n := 0 + 8) ((t21 20 0 0 0 0 a b c).trans ?_)).x
    refine cond_of (fun h => ?_) (fun h => ?_)
    · have hn : wOk a b c = false := by
        unfold wOk
        rw [decide_eq_false]
        omega
      rw [← hv]
      simp only [worthV, hn]
      rfl
    · exfalso
      simp at h
      omega
def addF : FSpec where
  D ds := ∃ a b : Int, ds = [.int .i64 a, .int .i64 b] ∧ is64 a ∧ is64 b
  val ds := match ds with | [.int _ a, .int _ b] => some (.tuple [.int .i64 (cond (fitsB (a + b)) (a + b) 0), .bool (fitsB (a + b))]) | _ => none
theorem add_tree {a b : Int} (ha : is64 a) (hb : is64 b) : cond (bif bif decide (b > (0 : Int)) then decide (a > IntKind.i64.wrap ((9223372036854775807 : Int) - b)) else false then true else bif decide (b < (0 : Int)) then decide (a < IntKind.i64.wrap ((-9223372036854775808 : Int) - b)) else false)
     (some (DV.tuple [.int .i64 (0 : Int), .bool false])) (some (.tuple [.int .i64 (IntKind.i64.wrap (a + b)), .bool true])) = addF.val [.int .i64 a, .int .i64 b] := by
  simp only [is64] at ha hb
  simp only [addF]
  by_cases h0 : 0 < b
  · rw [decide_eq_true (show b > 0 from h0), decide_eq_false (show ¬ b < 0 by omega), wrap_fits (n := 9223372036854775807 - b) (by omega) (by omega)]
    simp only [cond_true, cond_false, Bool.cond_false_right, Bool.and_true, Bool.cond_true_right]
    by_cases h1 : a > 9223372036854775807 - b
    · rw [decide_eq_true h1, show fitsB (a + b) = false from decide_eq_false (by omega)]
      rfl
    · rw [decide_eq_false h1, show fitsB (a + b) = true from decide_eq_true (by omega), wrap_fits (n := a + b) (by omega) (by omega)]
      rfl
  · rw [decide_eq_false (show ¬ b > 0 from h0)]
    simp only [cond_false]
    by_cases h2 : b < 0
    · rw [decide_eq_true h2, wrap_fits (n := -9223372036854775808 - b) (by omega) (by omega)]
      simp only [cond_true]
      by_cases h1 : a < -9223372036854775808 - b
      · rw [decide_eq_true h1, show fitsB (a + b) = false from decide_eq_false (by omega)]
        rfl
      · rw [decide_eq_false h1, show fitsB (a + b) = true from decide_eq_true (by omega), wrap_fits (n := a + b) (by omega) (by omega)]
        rfl
    · rw [decide_eq_false h2, show fitsB (a + b) = true from decide_eq_true (by omega), wrap_fits (n := a + b) (by omega) (by omega)]
      rfl
theorem add19 : addF.ok Try.prog 19 := fspec_ok (lsp := lsp0) tab_ok noSp_ok fun ds hD => by
  obtain ⟨a, b, rfl, ha, hb⟩ := hD
  exact ⟨100, 0 + 8, (t19 100 0 a b).trans (add_tree ha hb)⟩
theorem add20 : addF.ok Try.prog 20 := fspec_ok (lsp := lsp0) tab_ok noSp_ok fun ds hD => by
  obtain ⟨a, b, rfl, ha, hb⟩ := hD
  exact ⟨100, 0 + 8, (t20 100 0 a b).trans (add_tree ha hb)⟩
noncomputable def spT : FuncId → Option FSpec := spAdd 15 trueS (spAdd 16 lessS (spAdd 18 lessS (spAdd 17 worthV (spAdd 21 worthV (spAdd 19 addF (spAdd 20 addF noSp))))))
theorem spT_ok : ∀ f s, spT f = some s → s.ok Try.prog f := spAdd_ok known15 (spAdd_ok less16 (spAdd_ok less18 (spAdd_ok worth17v (spAdd_ok worth21v (spAdd_ok add19 (spAdd_ok add20 noSp_ok))))))
end Go.Proofs.Ytianifckopijjaa
