/- What a price and a number are worth, by the program's runs. No condition. -/
import Derived.Test.YtianifckopijjaaSe
namespace Go.Proofs.Ytianifckopijjaa
open Go Go.Proofs Go.RowKit Vm
set_option linter.unusedVariables false
set_option linter.unusedSimpArgs false
noncomputable def spM : FuncId → Option FSpec := spAdd 31 mulS (spAdd 28 addS (spAdd 32 divT noSp))
theorem spM_ok : ∀ f s, spM f = some s → s.ok Try.prog f := spAdd_ok mul31 (spAdd_ok add28 (spAdd_ok divT32 noSp_ok))
def wI (a b c : Int) : Int := a * b * (10000 - c) / 10000
def wOk (a b c : Int) : Bool := decide (0 ≤ a ∧ 0 ≤ b ∧ 0 ≤ c ∧ c ≤ 10000 ∧ wI a b c ≤ 9223372036854775807)
def worthV : FSpec where
  D ds := ∃ a b c : Int, ds = [.int .i64 a, .int .i64 b, .int .i64 c] ∧ is64 a ∧ is64 b ∧ is64 c
  val ds := match ds with | [.int _ a, .int _ b, .int _ c] => some (.tuple [.int .i64 (cond (wOk a b c) (wI a b c) 0), .bool (wOk a b c)]) | _ => none
theorem t17v (L n : Nat) (a b c : Int) : FK tab spM lsp0 L (n+8) 17 [.int .i64 a, .int .i64 b, .int .i64 c] =
   (bif
 bif bif decide (a < (0 : Int)) then true else decide (b < (0 : Int)) then true
 else !bif decide (c ≥ (0 : Int)) then decide (c ≤ (10000 : Int)) else false then
 some (DV.tuple [DV.int .i64 0, DV.bool false])
 else
 need (mulS.D [DV.int IntKind.u64 (IntKind.u64.wrap a), DV.int IntKind.u64 (IntKind.u64.wrap b)])
 (need
 (divT.D
 [DV.int IntKind.u64 ((IntKind.u64.wrap a * IntKind.u64.wrap b / (18446744073709551616 : Int)).tmod (10000 : Int)), DV.int IntKind.u64 (IntKind.u64.wrap a * IntKind.u64.wrap b % (18446744073709551616 : Int)), DV.int IntKind.u64 (10000 : Int)])
 (need
 (mulS.D
 [DV.int IntKind.u64
 (((IntKind.u64.wrap a * IntKind.u64.wrap b / (18446744073709551616 : Int)).tmod (10000 : Int) * (18446744073709551616 : Int) +
 IntKind.u64.wrap a * IntKind.u64.wrap b % (18446744073709551616 : Int)) /
 (10000 : Int)), DV.int IntKind.u64 (IntKind.u64.wrap (IntKind.i64.wrap ((10000 : Int) - c)))])
 (need
 (addS.D
 [DV.int IntKind.u64
 (((IntKind.u64.wrap a * IntKind.u64.wrap b / (18446744073709551616 : Int)).tmod (10000 : Int) * (18446744073709551616 : Int) +
 IntKind.u64.wrap a * IntKind.u64.wrap b % (18446744073709551616 : Int)) /
 (10000 : Int) *
 IntKind.u64.wrap (IntKind.i64.wrap ((10000 : Int) - c)) %
 (18446744073709551616 : Int)), DV.int IntKind.u64
 (IntKind.u64.wrap
 ((IntKind.u64.wrap
 (((IntKind.u64.wrap a * IntKind.u64.wrap b / (18446744073709551616 : Int)).tmod (10000 : Int) * (18446744073709551616 : Int) +
 IntKind.u64.wrap a * IntKind.u64.wrap b % (18446744073709551616 : Int)) %
 (10000 : Int) *
 IntKind.u64.wrap (IntKind.i64.wrap ((10000 : Int) - c)))).tdiv
 (10000 : Int))), DV.int IntKind.u64 (0 : Int)])
 (bif
 bif
 bif
 bif
 decide
 (IntKind.u64.wrap ((IntKind.u64.wrap a * IntKind.u64.wrap b / (18446744073709551616 : Int)).tdiv (10000 : Int)) > (0 : Int)) then
 decide (IntKind.u64.wrap (IntKind.i64.wrap ((10000 : Int) - c)) > (0 : Int))
 else false then
 true
 else
 decide
 (IntKind.u64.wrap
 (((IntKind.u64.wrap a * IntKind.u64.wrap b / (18446744073709551616 : Int)).tmod (10000 : Int) * (18446744073709551616 : Int) +
 IntKind.u64.wrap a * IntKind.u64.wrap b % (18446744073709551616 : Int)) /
 (10000 : Int) *
 IntKind.u64.wrap (IntKind.i64.wrap ((10000 : Int) - c)) /
 (18446744073709551616 : Int) +
 (((IntKind.u64.wrap a * IntKind.u64.wrap b / (18446744073709551616 : Int)).tmod (10000 : Int) * (18446744073709551616 : Int) +
 IntKind.u64.wrap a * IntKind.u64.wrap b % (18446744073709551616 : Int)) /
 (10000 : Int) *
 IntKind.u64.wrap (IntKind.i64.wrap ((10000 : Int) - c)) %
 (18446744073709551616 : Int) +
 IntKind.u64.wrap
 ((IntKind.u64.wrap
 (((IntKind.u64.wrap a * IntKind.u64.wrap b / (18446744073709551616 : Int)).tmod (10000 : Int) *
 (18446744073709551616 : Int) +
 IntKind.u64.wrap a * IntKind.u64.wrap b % (18446744073709551616 : Int)) %
 (10000 : Int) *
 IntKind.u64.wrap (IntKind.i64.wrap ((10000 : Int) - c)))).tdiv
 (10000 : Int))) /
 (18446744073709551616 : Int)) >
 (0 : Int)) then
 true
 else
 decide
 ((((IntKind.u64.wrap a * IntKind.u64.wrap b / (18446744073709551616 : Int)).tmod (10000 : Int) * (18446744073709551616 : Int) +
 IntKind.u64.wrap a * IntKind.u64.wrap b % (18446744073709551616 : Int)) /
 (10000 : Int) *
 IntKind.u64.wrap (IntKind.i64.wrap ((10000 : Int) - c)) %
 (18446744073709551616 : Int) +
 IntKind.u64.wrap
 ((IntKind.u64.wrap
 (((IntKind.u64.wrap a * IntKind.u64.wrap b / (18446744073709551616 : Int)).tmod (10000 : Int) * (18446744073709551616 : Int) +
 IntKind.u64.wrap a * IntKind.u64.wrap b % (18446744073709551616 : Int)) %
 (10000 : Int) *
 IntKind.u64.wrap (IntKind.i64.wrap ((10000 : Int) - c)))).tdiv
 (10000 : Int))) %
 (18446744073709551616 : Int) >
 (9223372036854775807 : Int)) then
 some (DV.tuple [DV.int .i64 0, DV.bool false])
 else
 some
 (DV.tuple
 [DV.int .i64
 (IntKind.i64.wrap
 ((((IntKind.u64.wrap a * IntKind.u64.wrap b / (18446744073709551616 : Int)).tmod (10000 : Int) * (18446744073709551616 : Int) +
 IntKind.u64.wrap a * IntKind.u64.wrap b % (18446744073709551616 : Int)) /
 (10000 : Int) *
 IntKind.u64.wrap (IntKind.i64.wrap ((10000 : Int) - c)) %
 (18446744073709551616 : Int) +
 IntKind.u64.wrap
 ((IntKind.u64.wrap
 (((IntKind.u64.wrap a * IntKind.u64.wrap b / (18446744073709551616 : Int)).tmod (10000 : Int) *
 (18446744073709551616 : Int) +
 IntKind.u64.wrap a * IntKind.u64.wrap b % (18446744073709551616 : Int)) %
 (10000 : Int) *
 IntKind.u64.wrap (IntKind.i64.wrap ((10000 : Int) - c)))).tdiv
 (10000 : Int))) %
 (18446744073709551616 : Int))),
 DV.bool true])))))) :=
  (show FK tab spM lsp0 L (n+8) 17 [.int .i64 a, .int .i64 b, .int .i64 c] =
 (cond (bif bif decide (a < (0 : Int)) then true else decide (b < (0 : Int)) then true else !bif decide (c ≥ (0 : Int)) then decide (c ≤ (10000 : Int)) else false)
 (some (.tuple [(.int .i64 ((0 : Int))), (.bool false)]))
 (need (FSpec.D (mulS) [(.int .u64 (IntKind.u64.wrap a)), (.int .u64 (IntKind.u64.wrap b))])
 (need (FSpec.D (divT) [(.int .u64 ((IntKind.u64.wrap a * IntKind.u64.wrap b / (18446744073709551616 : Int)).tmod (10000 : Int))), (.int .u64 (IntKind.u64.wrap a * IntKind.u64.wrap b % (18446744073709551616 : Int))), (.int .u64 ((10000 : Int)))])
 (need (FSpec.D (mulS) [(.int .u64 (((IntKind.u64.wrap a * IntKind.u64.wrap b / (18446744073709551616 : Int)).tmod (10000 : Int) * (18446744073709551616 : Int) + IntKind.u64.wrap a * IntKind.u64.wrap b % (18446744073709551616 : Int)) / (10000 : Int))), (.int .u64 (IntKind.u64.wrap (IntKind.i64.wrap ((10000 : Int) - c))))])
 (need (FSpec.D (addS) [(.int .u64 (((IntKind.u64.wrap a * IntKind.u64.wrap b / (18446744073709551616 : Int)).tmod (10000 : Int) * (18446744073709551616 : Int) + IntKind.u64.wrap a * IntKind.u64.wrap b % (18446744073709551616 : Int)) / (10000 : Int) * IntKind.u64.wrap (IntKind.i64.wrap ((10000 : Int) - c)) % (18446744073709551616 : Int))), (.int .u64 (IntKind.u64.wrap ((IntKind.u64.wrap (((IntKind.u64.wrap a * IntKind.u64.wrap b / (18446744073709551616 : Int)).tmod (10000 : Int) * (18446744073709551616 : Int) + IntKind.u64.wrap a * IntKind.u64.wrap b % (18446744073709551616 : Int)) % (10000 : Int) * IntKind.u64.wrap (IntKind.i64.wrap ((10000 : Int) - c)))).tdiv (10000 : Int)))), (.int .u64 ((0 : Int)))])
 (cond (bif bif bif decide (IntKind.u64.wrap ((IntKind.u64.wrap a * IntKind.u64.wrap b / (18446744073709551616 : Int)).tdiv (10000 : Int)) > (0 : Int)) then decide (IntKind.u64.wrap (IntKind.i64.wrap ((10000 : Int) - c)) > (0 : Int)) else false then true else decide (IntKind.u64.wrap (((IntKind.u64.wrap a * IntKind.u64.wrap b / (18446744073709551616 : Int)).tmod (10000 : Int) * (18446744073709551616 : Int) + IntKind.u64.wrap a * IntKind.u64.wrap b % (18446744073709551616 : Int)) / (10000 : Int) * IntKind.u64.wrap (IntKind.i64.wrap ((10000 : Int) - c)) / (18446744073709551616 : Int) + (((IntKind.u64.wrap a * IntKind.u64.wrap b / (18446744073709551616 : Int)).tmod (10000 : Int) * (18446744073709551616 : Int) + IntKind.u64.wrap a * IntKind.u64.wrap b % (18446744073709551616 : Int)) / (10000 : Int) * IntKind.u64.wrap (IntKind.i64.wrap ((10000 : Int) - c)) % (18446744073709551616 : Int) + IntKind.u64.wrap ((IntKind.u64.wrap (((IntKind.u64.wrap a * IntKind.u64.wrap b / (18446744073709551616 : Int)).tmod (10000 : Int) * (18446744073709551616 : Int) + IntKind.u64.wrap a * IntKind.u64.wrap b % (18446744073709551616 : Int)) % (10000 : Int) * IntKind.u64.wrap (IntKind.i64.wrap ((10000 : Int) - c)))).tdiv (10000 : Int))) / (18446744073709551616 : Int)) > (0 : Int)) then true else decide ((((IntKind.u64.wrap a * IntKind.u64.wrap b / (18446744073709551616 : Int)).tmod (10000 : Int) * (18446744073709551616 : Int) + IntKind.u64.wrap a * IntKind.u64.wrap b % (18446744073709551616 : Int)) / (10000 : Int) * IntKind.u64.wrap (IntKind.i64.wrap ((10000 : Int) - c)) % (18446744073709551616 : Int) + IntKind.u64.wrap ((IntKind.u64.wrap (((IntKind.u64.wrap a * IntKind.u64.wrap b / (18446744073709551616 : Int)).tmod (10000 : Int) * (18446744073709551616 : Int) + IntKind.u64.wrap a * IntKind.u64.wrap b % (18446744073709551616 : Int)) % (10000 : Int) * IntKind.u64.wrap (IntKind.i64.wrap ((10000 : Int) - c)))).tdiv (10000 : Int))) % (18446744073709551616 : Int) > (9223372036854775807 : Int)))
 (some (.tuple [(.int .i64 ((0 : Int))), (.bool false)]))
 (some (.tuple [(.int .i64 (IntKind.i64.wrap ((((IntKind.u64.wrap a * IntKind.u64.wrap b / (18446744073709551616 : Int)).tmod (10000 : Int) * (18446744073709551616 : Int) + IntKind.u64.wrap a * IntKind.u64.wrap b % (18446744073709551616 : Int)) / (10000 : Int) * IntKind.u64.wrap (IntKind.i64.wrap ((10000 : Int) - c)) % (18446744073709551616 : Int) + IntKind.u64.wrap ((IntKind.u64.wrap (((IntKind.u64.wrap a * IntKind.u64.wrap b / (18446744073709551616 : Int)).tmod (10000 : Int) * (18446744073709551616 : Int) + IntKind.u64.wrap a * IntKind.u64.wrap b % (18446744073709551616 : Int)) % (10000 : Int) * IntKind.u64.wrap (IntKind.i64.wrap ((10000 : Int) - c)))).tdiv (10000 : Int))) % (18446744073709551616 : Int)))), (.bool true)])))))))) from by kernel_rfl).trans (by first | rfl | (simp only [decide_true, decide_false, eq_self, and_true, true_and, and_self, cond_true, cond_false, Nat.le_refl, Int.le_refl, Option.getD_some, Option.getD_none, Int.toNat_natCast, List.take_length, List.drop_zero, Nat.zero_add, List.nil_append, List.all_nil, List.append_nil, Bool.true_and, Bool.and_true, rowsA_sla, rowsA_sl, rowsA_nil, minus_zero, nat_le_cast, nat_nonneg, Option.isSome_some, Option.isSome_none, Bool.false_eq_true, false_and, and_false, if_true, if_false, implies_true, Int.toNat_zero, Bool.not_false, Bool.not_true, bne_self_eq_false]; done) | (simp only [decide_true, decide_false, eq_self, and_true, true_and, and_self, cond_true, cond_false, Nat.le_refl, Int.le_refl, Option.getD_some, Option.getD_none, Int.toNat_natCast, List.take_length, List.drop_zero, Nat.zero_add, List.nil_append, List.all_nil, List.append_nil, Bool.true_and, Bool.and_true, rowsA_sla, rowsA_sl, rowsA_nil, minus_zero, nat_le_cast, nat_nonneg, Option.isSome_some, Option.isSome_none, Bool.false_eq_true, false_and, and_false, if_true, if_false, implies_true, Int.toNat_zero, Bool.not_false, Bool.not_true, bne_self_eq_false]; rfl))
theorem worth_split (P C : Nat) (hC : C ≤ 10000) : P * C / 10000 = P / 18446744073709551616 / 10000 * C * 18446744073709551616 + (P / 18446744073709551616 % 10000 * 18446744073709551616 + P % 18446744073709551616) / 10000 * C + P % 10000 * C / 10000 := by
  have h1 : P = P / 10000 * 10000 + P % 10000 := by omega
  have h2 : P / 10000 = P / 18446744073709551616 / 10000 * 18446744073709551616 + (P / 18446744073709551616 % 10000 * 18446744073709551616 + P % 18446744073709551616) / 10000 := by omega
  have h3 : P * C = P / 10000 * C * 10000 + P % 10000 * C := by
    rw [Nat.mul_right_comm, ← Nat.add_mul, ← h1]
  have h4 : P / 10000 * C = P / 18446744073709551616 / 10000 * C * 18446744073709551616 + (P / 18446744073709551616 % 10000 * 18446744073709551616 + P % 18446744073709551616) / 10000 * C := by
    rw [Nat.mul_right_comm _ C, ← Nat.add_mul, ← h2]
  omega
theorem cond3 {p q r s : Prop} [Decidable p] [Decidable q] [Decidable r] [Decidable s] (h : (bif bif bif decide p then decide q else false then true else decide r then true else decide s) = true) : (p ∧ q) ∨ r ∨ s := by
  by_cases hp : p <;> by_cases hq : q <;> by_cases hr : r <;> by_cases hs : s <;> simp_all
theorem cond3f {p q r s : Prop} [Decidable p] [Decidable q] [Decidable r] [Decidable s] (h : (bif bif bif decide p then decide q else false then true else decide r then true else decide s) = false) : ¬ (p ∧ q) ∧ ¬ r ∧ ¬ s := by
  by_cases hp : p <;> by_cases hq : q <;> by_cases hr : r <;> by_cases hs : s <;> simp_all
theorem worth17v : worthV.ok Try.prog 17 := fspec_ok (lsp := lsp0) tab_ok spM_ok fun ds hD => by
  obtain ⟨a, b, c, rfl, ha, hb, hc⟩ := hD
  refine ⟨100, 0 + 8, (t17v 100 0 a b c).trans ?_⟩
  simp only [is64] at ha hb hc
  refine cond_of (fun h => ?_) (fun h => ?_)
  · have hn : wOk a b c = false := by
      unfold wOk
      rw [decide_eq_false]
      simp at h
      omega
    simp only [worthV, hn]
    rfl
  · have hp : 0 ≤ a ∧ 0 ≤ b ∧ 0 ≤ c ∧ c ≤ 10000 := by
      simp at h
      omega
    obtain ⟨A, rfl⟩ : ∃ A : Nat, a = (A : Int) := ⟨a.toNat, by omega⟩
    obtain ⟨B, rfl⟩ : ∃ B : Nat, b = (B : Int) := ⟨b.toNat, by omega⟩
    obtain ⟨C, rfl⟩ : ∃ C : Nat, c = (C : Int) := ⟨c.toNat, by omega⟩
    have hC : C ≤ 10000 := by omega
    have k : IntKind.i64.wrap ((10000 : Int) - (C : Int)) = ((10000 - C : Nat) : Int) := by rw [wrap_fits] <;> omega
    have hAB : A * B ≤ 9223372036854775807 * 9223372036854775807 := Nat.mul_le_mul (by omega) (by omega)
    have hs := worth_split (A * B) (10000 - C) (by omega)
    have hw : wI (A : Int) (B : Int) (C : Int) = ((A * B * (10000 - C) / 10000 : Nat) : Int) := by
      unfold wI
      rw [show (10000 : Int) - (C : Int) = ((10000 - C : Nat) : Int) by omega]
      rfl
    have d0 : ((A * B : Nat) : Int) / 18446744073709551616 = ((A * B / 18446744073709551616 : Nat) : Int) := rfl
    have d1 : ((A * B : Nat) : Int) % 18446744073709551616 = ((A * B % 18446744073709551616 : Nat) : Int) := rfl
    have d2 : ((A * B / 18446744073709551616 : Nat) : Int).tmod 10000 = ((A * B / 18446744073709551616 % 10000 : Nat) : Int) := rfl
    have d3 : ((A * B / 18446744073709551616 : Nat) : Int).tdiv 10000 = ((A * B / 18446744073709551616 / 10000 : Nat) : Int) := rfl
    have d4 : ((A * B / 18446744073709551616 % 10000 : Nat) : Int) * 18446744073709551616 + ((A * B % 18446744073709551616 : Nat) : Int) = ((A * B / 18446744073709551616 % 10000 * 18446744073709551616 + A * B % 18446744073709551616 : Nat) : Int) := rfl
    have d5 : (A * B / 18446744073709551616 % 10000 * 18446744073709551616 + A * B % 18446744073709551616) % 10000 = A * B % 10000 := by omega
    have hlo : A * B % 18446744073709551616 < 18446744073709551616 := Nat.mod_lt _ (by omega)
    have hr : A * B / 18446744073709551616 % 10000 < 10000 := Nat.mod_lt _ (by omega)
    generalize hP : A * B = P at *
    have d6 : ((P / 18446744073709551616 % 10000 * 18446744073709551616 + P % 18446744073709551616 : Nat) : Int) / 10000 = (((P / 18446744073709551616 % 10000 * 18446744073709551616 + P % 18446744073709551616) / 10000 : Nat) : Int) := rfl
    have d7 : ((P / 18446744073709551616 % 10000 * 18446744073709551616 + P % 18446744073709551616 : Nat) : Int) % 10000 = ((P % 10000 : Nat) : Int) := by rw [← d5]; rfl
    have hQ : (P / 18446744073709551616 % 10000 * 18446744073709551616 + P % 18446744073709551616) / 10000 < 18446744073709551616 := by omega
    have hT : P % 10000 * (10000 - C) ≤ 9999 * 10000 := Nat.mul_le_mul (by omega) (by omega)
    have d8 : ((P % 10000 * (10000 - C) : Nat) : Int).tdiv 10000 = ((P % 10000 * (10000 - C) / 10000 : Nat) : Int) := rfl
    have hq1 : P / 18446744073709551616 / 10000 < 18446744073709551616 := by omega
    simp only [k, wN A (by omega), wN B (by omega), wN (10000 - C) (by omega), mulN, hP, d0, d1, d2, d3, d4, d6, d7]
    have hq1K : P / 18446744073709551616 / 10000 = 0 ∨ 10000 - C = 0 ∨ 18446744073709551616 ≤ P / 18446744073709551616 / 10000 * (10000 - C) * 18446744073709551616 := by
      rcases Nat.eq_zero_or_pos (P / 18446744073709551616 / 10000) with h | h
      · exact .inl h
      rcases Nat.eq_zero_or_pos (10000 - C) with h2 | h2
      · exact .inr (.inl h2)
      · have := Nat.mul_pos h h2
        exact .inr (.inr (by omega))
    generalize hQe : (P / 18446744073709551616 % 10000 * 18446744073709551616 + P % 18446744073709551616) / 10000 = Q at *
    generalize hqe : P / 18446744073709551616 / 10000 = q at *
    have hx : Q * (10000 - C) ≤ 18446744073709551615 * 10000 := Nat.mul_le_mul (by omega) (by omega)
    have hqk : q * (10000 - C) = 0 ∨ 0 < q ∧ 0 < 10000 - C := by
      rcases Nat.eq_zero_or_pos q with h | h
      · exact .inl (by rw [h, Nat.zero_mul])
      rcases Nat.eq_zero_or_pos (10000 - C) with h2 | h2
      · exact .inl (by rw [h2, Nat.mul_zero])
      · exact .inr ⟨h, h2⟩
    generalize hze : q * (10000 - C) = z at *
    simp only [wN (P % 10000 * (10000 - C)) (by omega), d8, wN (P % 10000 * (10000 - C) / 10000) (by omega), wN q hq1]
    generalize hre : P % 10000 * (10000 - C) / 10000 = R at *
    have d9 : ((Q * (10000 - C) : Nat) : Int) % 18446744073709551616 = ((Q * (10000 - C) % 18446744073709551616 : Nat) : Int) := rfl
    have d10 : ((Q * (10000 - C) : Nat) : Int) / 18446744073709551616 = ((Q * (10000 - C) / 18446744073709551616 : Nat) : Int) := rfl
    have hxm : Q * (10000 - C) = Q * (10000 - C) / 18446744073709551616 * 18446744073709551616 + Q * (10000 - C) % 18446744073709551616 := by omega
    have hxl : Q * (10000 - C) % 18446744073709551616 < 18446744073709551616 := Nat.mod_lt _ (by omega)
    have hxh : Q * (10000 - C) / 18446744073709551616 ≤ 10000 := by omega
    simp only [d9, d10]
    refine (need_pos ⟨A, B, rfl, by omega, by omega⟩).trans ?_
    refine (need_pos ⟨_, _, rfl, by omega, by omega⟩).trans ?_
    refine (need_pos ⟨_, _, rfl, by omega, by omega⟩).trans ?_
    refine (need_pos ⟨_, _, rfl, by omega, by omega⟩).trans ?_
    generalize Q * (10000 - C) / 18446744073709551616 = H at *
    generalize Q * (10000 - C) % 18446744073709551616 = Lo at *
    generalize Q * (10000 - C) = X at *
    rw [addN]
    rw [show ((Lo + R : Nat) : Int) / 18446744073709551616 = (((Lo + R) / 18446744073709551616 : Nat) : Int) from rfl, show ((Lo + R : Nat) : Int) % 18446744073709551616 = (((Lo + R) % 18446744073709551616 : Nat) : Int) from rfl, addN, wN (H + (Lo + R) / 18446744073709551616) (by omega)]
    simp only [worthV]
    refine cond_of (fun h => ?_) (fun h => ?_)
    · have hn : wOk (A : Int) (B : Int) (C : Int) = false := by
        unfold wOk
        rw [hw, decide_eq_false]
        have hor := cond3 h
        omega
      rw [hn]
      rfl
    · have hf : ¬ (0 < q ∧ 0 < 10000 - C) ∧ H + (Lo + R) / 18446744073709551616 = 0 ∧ (Lo + R) % 18446744073709551616 ≤ 9223372036854775807 := by
        have hor := cond3f h
        omega
      have hz : z = 0 := by omega
      have hn : wOk (A : Int) (B : Int) (C : Int) = true := by
        unfold wOk
        rw [hw, decide_eq_true]
        omega
      have hv : P * (10000 - C) / 10000 = (Lo + R) % 18446744073709551616 := by omega
      rw [hn, hw, hv, cond_true, wrap_fits (by omega) (by omega)]
end Go.Proofs.Ytianifckopijjaa
