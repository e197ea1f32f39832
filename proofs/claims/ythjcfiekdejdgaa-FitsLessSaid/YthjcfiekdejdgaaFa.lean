/- What fits, by hand: the runs. No condition. -/
import Derived.Test.YthjcfiekdejdgaaCode
import Derived.Test.YthjcfiekdejdgaaVmS
namespace Go.Proofs.Ythjcfiekdejdgaa
open Go Go.Proofs Go.RowKit Vm
set_option linter.unusedVariables false
set_option linter.unusedSimpArgs false
def lsp0 : Nat → Option LSpec := fun _ => none
def trueS : FSpec where
  D ds := ds = []
  val ds := some (.bool true)
noncomputable def spKn : FuncId → Option FSpec := spAdd 18 trueS noSp
theorem k18 (n : Nat) : FK tab noSp lsp0 20 (n+12) 18 [] =
   (some (DV.bool true)) :=
  (show FK tab noSp lsp0 20 (n+12) 18 [] =
 (some (.bool (bif bif bif bif bif bif bif bif decide ((0 : Int) ≥ (0 : Int)) then decide ((0 : Int) < (3 : Int)) else false then decide ((1 : Int) ≥ (0 : Int)) else false then decide ((1 : Int) < (3 : Int)) else false then true else false then decide ((6 : Int) ≥ (1 : Int)) else false then decide ((6 : Int) ≤ (1099511627776 : Int)) else false then decide ((3 : Int) ≥ (1 : Int)) else false then decide ((3 : Int) ≤ (3 : Int)) else false))) from by kernel_rfl).trans (by first | rfl | (simp only [decide_true, decide_false, eq_self, and_true, true_and, and_self, cond_true, cond_false, Nat.le_refl, Int.le_refl, Option.getD_some, Option.getD_none, Int.toNat_natCast, List.take_length, List.drop_zero, Nat.zero_add, List.nil_append, List.all_nil, List.append_nil, Bool.true_and, Bool.and_true, rowsA_sla, rowsA_sl, rowsA_nil, minus_zero, nat_le_cast, nat_nonneg, Option.isSome_some, Option.isSome_none, Bool.false_eq_true, false_and, and_false, if_true, if_false, implies_true, Int.toNat_zero, Bool.not_false, Bool.not_true, bne_self_eq_false]; done) | (simp only [decide_true, decide_false, eq_self, and_true, true_and, and_self, cond_true, cond_false, Nat.le_refl, Int.le_refl, Option.getD_some, Option.getD_none, Int.toNat_natCast, List.take_length, List.drop_zero, Nat.zero_add, List.nil_append, List.all_nil, List.append_nil, Bool.true_and, Bool.and_true, rowsA_sla, rowsA_sl, rowsA_nil, minus_zero, nat_le_cast, nat_nonneg, Option.isSome_some, Option.isSome_none, Bool.false_eq_true, false_and, and_false, if_true, if_false, implies_true, Int.toNat_zero, Bool.not_false, Bool.not_true, bne_self_eq_false]; rfl))
theorem t8 (n : Nat) (way : Int) : FK tab spKn lsp0 20 (n+12) 8 [.int .i64 way] =
   (bif way == (0 : Int) then need (trueS.D []) (some (DV.bool true))
 else
 bif way == (1 : Int) then need (trueS.D []) (some (DV.bool true))
 else
 bif way == (2 : Int) then need (trueS.D []) (some (DV.bool true))
 else bif way == (3 : Int) then need (trueS.D []) (some (DV.bool true)) else some (DV.bool true)) :=
  (show FK tab spKn lsp0 20 (n+12) 8 [.int .i64 way] =
 (cond (way == (0 : Int))
 (need (FSpec.D (trueS) [])
 (some (.bool true)))
 (cond (way == (1 : Int))
 (need (FSpec.D (trueS) [])
 (some (.bool true)))
 (cond (way == (2 : Int))
 (need (FSpec.D (trueS) [])
 (some (.bool true)))
 (cond (way == (3 : Int))
 (need (FSpec.D (trueS) [])
 (some (.bool true)))
 (some (.bool true)))))) from by kernel_rfl).trans (by first | rfl | (simp only [decide_true, decide_false, eq_self, and_true, true_and, and_self, cond_true, cond_false, Nat.le_refl, Int.le_refl, Option.getD_some, Option.getD_none, Int.toNat_natCast, List.take_length, List.drop_zero, Nat.zero_add, List.nil_append, List.all_nil, List.append_nil, Bool.true_and, Bool.and_true, rowsA_sla, rowsA_sl, rowsA_nil, minus_zero, nat_le_cast, nat_nonneg, Option.isSome_some, Option.isSome_none, Bool.false_eq_true, false_and, and_false, if_true, if_false, implies_true, Int.toNat_zero, Bool.not_false, Bool.not_true, bne_self_eq_false]; done) | (simp only [decide_true, decide_false, eq_self, and_true, true_and, and_self, cond_true, cond_false, Nat.le_refl, Int.le_refl, Option.getD_some, Option.getD_none, Int.toNat_natCast, List.take_length, List.drop_zero, Nat.zero_add, List.nil_append, List.all_nil, List.append_nil, Bool.true_and, Bool.and_true, rowsA_sla, rowsA_sl, rowsA_nil, minus_zero, nat_le_cast, nat_nonneg, Option.isSome_some, Option.isSome_none, Bool.false_eq_true, false_and, and_false, if_true, if_false, implies_true, Int.toNat_zero, Bool.not_false, Bool.not_true, bne_self_eq_false]; rfl))
theorem known18 : trueS.ok Try.prog 18 := fun ds r hD hv => by
  cases hD
  cases hv
  exact spec_run (lsp := lsp0) tab_ok noSp_ok 20 (0 + 12) (k18 0)
theorem spKn_ok : ∀ f s, spKn f = some s → s.ok Try.prog f := spAdd_ok known18 noSp_ok
end Go.Proofs.Ythjcfiekdejdgaa
