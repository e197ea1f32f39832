/- What is known of the pool's known(), and of one number's sum. No condition. -/
import Derived.Test.YtianifckopijjaaSb
namespace Go.Proofs.Ytianifckopijjaa
open Go Go.Proofs Go.RowKit Vm
set_option linter.unusedVariables false
set_option linter.unusedSimpArgs false
noncomputable def sp4 : FuncId → Option FSpec := spAdd 13 sumS (spAdd 17 worthS noSp)
theorem sp4_ok : ∀ f s, sp4 f = some s → s.ok Try.prog f := spAdd_ok sum13 (spAdd_ok worth17 noSp_ok)
theorem k27 (n : Nat) : FK tab sp4 lsp0 20 (n+8) 27 [] =
   (need (worthS.D [DV.int .i64 100, DV.int .i64 10, DV.int .i64 1000])
 (need (sumS.D [DV.sl SK.ro 1 [[DV.int .i64 (lessI (1000 : Int) (1000 : Int))]]]) (some (DV.bool true)))) :=
  (show FK tab sp4 lsp0 20 (n+8) 27 [] =
 (need (FSpec.D (worthS) [(.int .i64 ((100 : Int))), (.int .i64 ((10 : Int))), (.int .i64 ((1000 : Int)))])
 (need (FSpec.D (sumS) [(.sl (SK.ro) 1 [[(.int .i64 (lessI (1000 : Int) (1000 : Int)))]])])
 (some (.bool true)))) from by kernel_rfl).trans (by first | rfl | (simp only [decide_true, decide_false, eq_self, and_true, true_and, and_self, cond_true, cond_false, Nat.le_refl, Int.le_refl, Option.getD_some, Option.getD_none, Int.toNat_natCast, List.take_length, List.drop_zero, Nat.zero_add, List.nil_append, List.all_nil, List.append_nil, Bool.true_and, Bool.and_true, rowsA_sla, rowsA_sl, rowsA_nil, minus_zero, nat_le_cast, nat_nonneg, Option.isSome_some, Option.isSome_none, Bool.false_eq_true, false_and, and_false, if_true, if_false, implies_true, Int.toNat_zero, Bool.not_false, Bool.not_true, bne_self_eq_false]; done) | (simp only [decide_true, decide_false, eq_self, and_true, true_and, and_self, cond_true, cond_false, Nat.le_refl, Int.le_refl, Option.getD_some, Option.getD_none, Int.toNat_natCast, List.take_length, List.drop_zero, Nat.zero_add, List.nil_append, List.all_nil, List.append_nil, Bool.true_and, Bool.and_true, rowsA_sla, rowsA_sl, rowsA_nil, minus_zero, nat_le_cast, nat_nonneg, Option.isSome_some, Option.isSome_none, Bool.false_eq_true, false_and, and_false, if_true, if_false, implies_true, Int.toNat_zero, Bool.not_false, Bool.not_true, bne_self_eq_false]; rfl))
theorem sumZ_one (x : Int) : sumZ (rows (DV.sl .ro 1 [[.int .i64 x]])) = x := by simp [rows, sumZ, cel, cellA]
theorem row64_one {x : Int} (h : is64 x) : sumS.D [.sl .ro 1 [[.int .i64 x]]] := ⟨_, rfl, .inr ⟨.ro, [[.int .i64 x]], rfl, fun e he => by
  simp only [List.mem_singleton] at he
  subst he
  rfl, by simp⟩, fun e he => by
  simp only [rows, List.mem_singleton] at he
  subst he
  exact h⟩
theorem known27 : trueS.ok Try.prog 27 := fspec_ok (lsp := lsp0) tab_ok sp4_ok fun ds hD => by
  cases hD
  refine ⟨20, 0 + 8, (k27 0).trans ?_⟩
  refine (need_pos ⟨100, 10, 1000, rfl, by omega, by omega, by omega, by omega⟩).trans ?_
  exact need_pos (row64_one (x := lessI 1000 1000) (by unfold is64 lessI; omega))
noncomputable def sp5 : FuncId → Option FSpec := spAdd 27 trueS (spAdd 13 sumS (spAdd 17 worthS noSp))
theorem sp5_ok : ∀ f s, sp5 f = some s → s.ok Try.prog f := spAdd_ok known27 (spAdd_ok sum13 (spAdd_ok worth17 noSp_ok))
theorem less_div (n k : Nat) : n / 10000 * k + n % 10000 * k / 10000 = n * k / 10000 := by
  have h : n * k = 10000 * (n / 10000 * k) + n % 10000 * k := by
    have h1 := Nat.div_add_mod n 10000
    calc n * k = (10000 * (n / 10000) + n % 10000) * k := by rw [h1]
      _ = 10000 * (n / 10000 * k) + n % 10000 * k := by rw [Nat.add_mul, Nat.mul_assoc]
  rw [h, Nat.mul_add_div (by omega)]
theorem lessI_eq (n c : Nat) (hc : c ≤ 10000) : lessI n c = ((n * (10000 - c) / 10000 : Nat) : Int) := by rw [lessI_nat n c hc, less_div]
end Go.Proofs.Ytianifckopijjaa
