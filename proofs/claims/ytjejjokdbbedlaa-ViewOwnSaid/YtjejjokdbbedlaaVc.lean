/- Heads's closure: its run. No condition. -/
import Derived.Test.YtjejjokdbbedlaaVb
namespace Go.Proofs.Ytjejjokdbbedlaa
open Go Go.Proofs Go.RowKit Vm
set_option linter.unusedVariables false
set_option linter.unusedSimpArgs false
/-- code whose ends keep what is read behind -/
def hinted (h : Hint) : AC → AC
  | .seq a b => .seq (hinted h a) (hinted h b)
  | .cond c a b => .cond c (hinted h a) (hinted h b)
  | .block id b => .block id (hinted h b)
  | .ret _ => .ret (some h)
  | c => c
def h27 : Hint := ⟨0, [1, 3], [1001, 1002], [], []⟩
def A27 : AC := hinted h27 c27.body.erase
def S27 (e : List DV) (M : List (List DV)) : St := St.of [(0, .d (.agg e)), (1, .ptr 1001 1 0 0)] [(1001, some (.mix 32 1 [[.aref 1002 1 0 M.length]])), (1002, some (.dat 3 1 M))]
def E27 (b : Bool) (M : List (List DV)) (n : Nat) : St := St.of [(1, .ptr 1001 1 0 0), (3, .d (.bool b))] [(1001, some (.mix 32 1 [[.aref 1002 1 0 n]])), (1002, some (.dat 3 1 M))]
def S27n (e : List DV) : St := St.of [(0, .d (.agg e)), (1, .ptr 1001 1 0 0)] [(1001, some (.dat 32 1 [[.sla false 1 []]]))]
def E27n : St := St.of [(1, .ptr 1001 1 0 0), (3, .d (.bool false))] [(1001, some (.dat 32 1 [[.sla false 1 []]])), (1002, none)]
theorem t27 (L n : Nat) (M : List (List DV)) (a0 a1 a2 a3 a4 a5 a6 : Int) (k : Kont) : LB tab noSp lsp0 L (n+4) h27 A27 (S27 (p7 a0 a1 a2 a3 a4 a5 a6) M) k =
   (bif bif decide (a1 < (0 : Int)) then true else decide (a1 ≥ (↑M.length : Int)) then
 k Ex.ret
 (St.of [(1, AV.ptr 1001 1 0 0), (3, AV.d (DV.bool false))]
 [(1001, some (Ob.mix (32 : TypeId) (1 : Nat) [[AV.aref 1002 1 0 M.length]])),
 ((1002 : Nat), some (Ob.dat 3 1 M))])
 else
 bif decide ((0 : Int) ≤ a1) then
 bif decide (a1 < (↑M.length : Int)) then
 lookK M[a1.toNat]? fun (e3 : List DV) =>
 lookK e3[(0 : Nat)]? fun (e5 : DV) =>
 bif (DV.int .i64 0).isK e5 then
 bif decide (e5.toI < (1 : Int)) then
 k Ex.ret
 (St.of [(1, AV.ptr 1001 1 0 0), (3, AV.d (DV.bool false))]
 [(1001, some (Ob.mix (32 : TypeId) (1 : Nat) [[AV.aref 1002 1 0 M.length]])),
 ((1002 : Nat), some (Ob.dat 3 1 M))])
 else
 bif decide ((0 : Int) ≤ a1) then
 bif decide (a1 < (↑M.length : Int)) then
 lookK M[a1.toNat]? fun (e11 : List DV) =>
 lookK e11[(0 : Nat)]? fun (e13 : DV) =>
 bif (DV.int .i64 0).isK e13 then
 bif decide ((0 : Int) ≤ a1) then
 bif decide (a1 < (↑M.length : Int)) then
 lookK M[a1.toNat]? fun (e18 : List DV) =>
 bif decide ((1 : Nat) ≤ e18.length) then
 k Ex.ret
 (St.of [(1, AV.ptr 1001 1 0 0), (3, AV.d (DV.bool true))]
 [(1001, some (Ob.mix (32 : TypeId) (1 : Nat) [[AV.aref 1002 1 0 M.length]])),
 ((1002 : Nat),
 some
 (Ob.dat 3 1
 (M.set a1.toNat (DV.int .i64 (IntKind.i64.wrap (e13.toI - (1 : Int))) :: List.drop (1 : Nat) e18))))])
 else none
 else none
 else none
 else none
 else none
 else none
 else none
 else none
 else none) :=
  (show LB tab noSp lsp0 L (n+4) h27 A27 (S27 (p7 a0 a1 a2 a3 a4 a5 a6) M) k =
 (cond (bif decide (a1 < (0 : Int)) then true else decide (a1 ≥ (↑M.length : Int)))
 (k .ret (St.of [(1, (.ptr 1001 1 0 0)), (3, (.d (.bool false)))] [(1001, (.some (.mix 32 1 [[(.aref 1002 1 0 (M.length))]]))), (1002, (.some (.dat 3 1 M)))]))
 (cond (decide ((0 : Int) ≤ a1))
 (cond (decide (a1 < (↑M.length : Int)))
 (lookK (M[(0 : Nat) + a1.toNat]?)
 fun e3 =>
 (lookK (e3[(0 : Nat)]?)
 fun e5 =>
 (cond ((DV.int .i64 0).isK e5)
 (cond (decide (e5.toI < (1 : Int)))
 (k .ret (St.of [(1, (.ptr 1001 1 0 0)), (3, (.d (.bool false)))] [(1001, (.some (.mix 32 1 [[(.aref 1002 1 0 (M.length))]]))), (1002, (.some (.dat 3 1 M)))]))
 (cond (decide ((0 : Int) ≤ a1))
 (cond (decide (a1 < (↑M.length : Int)))
 (lookK (M[(0 : Nat) + a1.toNat]?)
 fun e11 =>
 (lookK (e11[(0 : Nat)]?)
 fun e13 =>
 (cond ((DV.int .i64 0).isK e13)
 (cond (decide ((0 : Int) ≤ a1))
 (cond (decide (a1 < (↑M.length : Int)))
 (lookK (M[(0 : Nat) + a1.toNat]?)
 fun e18 =>
 (cond (decide ((1 : Nat) ≤ e18.length))
 (k .ret (St.of [(1, (.ptr 1001 1 0 0)), (3, (.d (.bool true)))] [(1001, (.some (.mix 32 1 [[(.aref 1002 1 0 (M.length))]]))), (1002, (.some (.dat 3 1 (M.set ((0 : Nat) + a1.toNat) (DV.int .i64 (IntKind.i64.wrap (e13.toI - (1 : Int))) :: List.drop (1 : Nat) e18)))))]))
 none))
 none)
 none)
 none)))
 none)
 none))
 none)))
 none)
 none)) from by kernel_rfl).trans (by first | rfl | (simp only [decide_true, decide_false, eq_self, and_true, true_and, and_self, cond_true, cond_false, Nat.le_refl, Int.le_refl, Option.getD_some, Option.getD_none, Int.toNat_natCast, List.take_length, List.drop_zero, Nat.zero_add, List.nil_append, List.all_nil, List.append_nil, Bool.true_and, Bool.and_true, rowsA_sla, rowsA_sl, rowsA_nil, minus_zero, nat_le_cast, nat_nonneg, Option.isSome_some, Option.isSome_none, Bool.false_eq_true, false_and, and_false, if_true, if_false, implies_true, Int.toNat_zero, Bool.not_false, Bool.not_true, bne_self_eq_false]; done) | (simp only [decide_true, decide_false, eq_self, and_true, true_and, and_self, cond_true, cond_false, Nat.le_refl, Int.le_refl, Option.getD_some, Option.getD_none, Int.toNat_natCast, List.take_length, List.drop_zero, Nat.zero_add, List.nil_append, List.all_nil, List.append_nil, Bool.true_and, Bool.and_true, rowsA_sla, rowsA_sl, rowsA_nil, minus_zero, nat_le_cast, nat_nonneg, Option.isSome_some, Option.isSome_none, Bool.false_eq_true, false_and, and_false, if_true, if_false, implies_true, Int.toNat_zero, Bool.not_false, Bool.not_true, bne_self_eq_false]; rfl))
theorem t27n (L n : Nat) (a0 a1 a2 a3 a4 a5 a6 : Int) (k : Kont) : LB tab noSp lsp0 L (n+4) h27 A27 (S27n (p7 a0 a1 a2 a3 a4 a5 a6)) k =
   (bif bif decide (a1 < (0 : Int)) then true else decide (a1 ≥ (0 : Int)) then
 k Ex.ret
 (St.of [(1, AV.ptr 1001 1 0 0), (3, AV.d (DV.bool false))]
 [(1001, some (Ob.dat 32 1 [[DV.sla false 1 []]])), (1002, none)])
 else bif decide ((0 : Int) ≤ a1) then none else none) :=
  (show LB tab noSp lsp0 L (n+4) h27 A27 (S27n (p7 a0 a1 a2 a3 a4 a5 a6)) k =
 (cond (bif decide (a1 < (0 : Int)) then true else decide (a1 ≥ (0 : Int)))
 (k .ret (St.of [(1, (.ptr 1001 1 0 0)), (3, (.d (.bool false)))] [(1001, (.some (.dat 32 1 [[(.sla false 1 [])]]))), (1002, .none)]))
 (cond (decide ((0 : Int) ≤ a1))
 none
 none)) from by kernel_rfl).trans (by first | rfl | (simp only [decide_true, decide_false, eq_self, and_true, true_and, and_self, cond_true, cond_false, Nat.le_refl, Int.le_refl, Option.getD_some, Option.getD_none, Int.toNat_natCast, List.take_length, List.drop_zero, Nat.zero_add, List.nil_append, List.all_nil, List.append_nil, Bool.true_and, Bool.and_true, rowsA_sla, rowsA_sl, rowsA_nil, minus_zero, nat_le_cast, nat_nonneg, Option.isSome_some, Option.isSome_none, Bool.false_eq_true, false_and, and_false, if_true, if_false, implies_true, Int.toNat_zero, Bool.not_false, Bool.not_true, bne_self_eq_false]; done) | (simp only [decide_true, decide_false, eq_self, and_true, true_and, and_self, cond_true, cond_false, Nat.le_refl, Int.le_refl, Option.getD_some, Option.getD_none, Int.toNat_natCast, List.take_length, List.drop_zero, Nat.zero_add, List.nil_append, List.all_nil, List.append_nil, Bool.true_and, Bool.and_true, rowsA_sla, rowsA_sl, rowsA_nil, minus_zero, nat_le_cast, nat_nonneg, Option.isSome_some, Option.isSome_none, Bool.false_eq_true, false_and, and_false, if_true, if_false, implies_true, Int.toNat_zero, Bool.not_false, Bool.not_true, bne_self_eq_false]; rfl))
noncomputable def B27 : Code := Try.f27.body.getD .skip
theorem body27 : Try.f27.body = some B27 := by kernel_rfl
theorem func27 : Try.prog.funcs[27]? = some Try.f27 := by kernel_rfl
theorem code27 : cCode Try.prog [2] 29 B27 = some A27.erase := by kernel_rfl
theorem ok27 : okPins [1] B27 = true := by kernel_rfl
theorem ntmps27 : Try.f27.ntmps = 29 := by kernel_rfl
theorem res27 : mapO (cRes Try.prog) Try.f27.results.toList = some [.t 3] := by kernel_rfl
theorem name27 : (Try.f27.name == "runtime.NumGoroutine") = false := by kernel_rfl
theorem none27 : Try.f27.body.isNone = false := by kernel_rfl
end Go.Proofs.Ytjejjokdbbedlaa
