/- Heads: its pieces. No condition. -/
import Derived.Test.YtjejjokdbbedlaaVd
namespace Go.Proofs.Ytjejjokdbbedlaa
open Go Go.Proofs Go.RowKit Vm
set_option linter.unusedVariables false
set_option linter.unusedSimpArgs false
def cloS (e : Bool) : FSpec where
  D ds := ∃ x, ds = [x] ∧ Sl 1 x ∧ (rowsA x).length ≤ 1000 ∧ (∀ e ∈ rowsA x, okRow z1 e = true) ∧ (rowsA x).isEmpty = e
  val ds := match ds with | [x] => some (cond e (.sla false 1 []) (.sl (.own 3) 1 (rowsA x))) | _ => none
noncomputable def spc (e : Bool) : FuncId → Option FSpec := spAdd 26 (cloS e) noSp
noncomputable def B14 : Code := Try.f14.body.getD .skip
def A14 : AC := c14.body.erase
def g0 : Hint := ⟨0, [0, 1], [], [], []⟩
def g1 : Hint := ⟨0, [0, 5], [5, 7], [], []⟩
def SH0 (l M : List (List DV)) : St := St.of [(0, .d (.sla false 7 l)), (1, .d (.sla false 1 M))] []
def SH (l M : List (List DV)) : St := St.of [(0, .d (.sla false 7 l)), (5, .ptr 5 1 0 0)] [(5, some (.mix 32 1 [[.aref 7 1 0 M.length]])), (7, some (.dat 3 1 M))]
def SHn (l : List (List DV)) : St := St.of [(0, .d (.sla false 7 l)), (5, .ptr 5 1 0 0)] [(5, some (.dat 32 1 [[.sla false 1 []]])), (7, none)]
theorem body14 : Try.f14.body = some B14 := by kernel_rfl
theorem func14 : Try.prog.funcs[14]? = some Try.f14 := by kernel_rfl
theorem name14 : (Try.f14.name == "runtime.NumGoroutine") = false := by kernel_rfl
theorem none14 : Try.f14.body.isNone = false := by kernel_rfl
theorem ntmps14 : Try.f14.ntmps = 11 := by kernel_rfl
theorem res14 : mapO (cRes Try.prog) Try.f14.results.toList = some [.t 4] := by kernel_rfl
theorem shape14 : B14 = .seq (kA B14) (.seq (kA (kB B14)) (.seq (kA (kB (kB B14))) .ret)) := by kernel_rfl
noncomputable def opsH : Array Oper := kOps (kA (kB (kB B14)))
noncomputable def idH : Nat := match kA (kB (kB B14)) with | .region id _ _ => id | _ => 0
theorem shapeH : kA (kB (kB B14)) = .region idH opsH false := by kernel_rfl
theorem sizeH : opsH.size = 4 := by kernel_rfl
noncomputable def oH (k : Nat) : Oper := match opsH[k]? with | some o => o | none => oNo
theorem atH0 : opsH[0]? = some (oH 0) := by kernel_rfl
theorem atH1 : opsH[1]? = some (oH 1) := by kernel_rfl
theorem atH2 : opsH[2]? = some (oH 2) := by kernel_rfl
theorem atH3 : opsH[3]? = some (oH 3) := by kernel_rfl
def y8 : AIns := ⟨some 8, none, [], true, .mv (.t 0)⟩
def y9 : AIns := ⟨some 9, none, [], true, .mkfn 27 [.t 5]⟩
def y4 : AIns := ⟨some 4, none, [], true, .mv (.t 10)⟩
theorem ciH0 : cIns Try.prog [] 11 opsH (oH 0) = some y8 := by kernel_rfl
theorem ciH1 : cIns Try.prog [] 11 opsH (oH 1) = some y9 := by kernel_rfl
theorem ciH3 : cIns Try.prog [] 11 opsH (oH 3) = some y4 := by kernel_rfl
theorem grdH2 : (oH 2).guard = none := by kernel_rfl
theorem dstH2 : (oH 2).dst = some 10 := by kernel_rfl
noncomputable def callH : Call := match (oH 2).op with | .call c => c | _ => ⟨.value (.tmp 0), #[], #[]⟩
theorem opH2 : (oH 2).op = .call callH := by kernel_rfl
theorem calleeH : callH.callee = .value (.func 22) := by kernel_rfl
theorem argsH : callH.args = #[.tmp 8, .tmp 9] := by kernel_rfl
theorem cH1 : cCode Try.prog [] 11 (kA B14) = some (xA A14).erase := by kernel_rfl
theorem cH2 : cCode Try.prog [] 11 (kA (kB B14)) = some (xA (xB A14)).erase := by kernel_rfl
theorem hw0 (e : Bool) (L n : Nat) (l M : List (List DV)) (k : Kont) : LB tab (spc e) lsp0 L (n+4) g0 (xA A14) (SH0 l M) k = k .nrm (SH0 l M) := by kernel_rfl
theorem hw1 (L n : Nat) (l M : List (List DV)) (k : Kont) : LB tab (spc false) lsp0 L (n+4) g1 (xA (xB A14)) (SH0 l M) k = need ((cloS false).D [.sla false 1 M]) (k .nrm (SH l M)) := by kernel_rfl
theorem hw1n (L n : Nat) (l M : List (List DV)) (k : Kont) : LB tab (spc true) lsp0 L (n+4) g1 (xA (xB A14)) (SH0 l M) k = need ((cloS true).D [.sla false 1 M]) (k .nrm (SHn l)) := by kernel_rfl
theorem func22' : (∃ fn, Try.prog.funcs[22]? = some fn ∧ (fn.name == "runtime.NumGoroutine") = false ∧ fn.body.isNone = false) := ⟨Try.f22, func22, by kernel_rfl, by kernel_rfl⟩
theorem t26 (n : Nat) (M : List (List DV)) : FK tab noSp lsp0 20 (n+8) 26 [.sl .ro 1 M] =
   (bif decide (M.length = (0 : Nat)) then some (DV.sl (SK.own (3 : Nat)) (1 : Nat) [])
 else
 bif M.all fun (e : List DV) => e.length == (1 : Nat) && e.all DV.one then
 bif decide (M.length * (8 : Nat) ≤ room ∧ M.length ≤ room) then some (DV.sl (SK.own (3 : Nat)) (1 : Nat) M) else none
 else none) :=
  (show FK tab noSp lsp0 20 (n+8) 26 [.sl .ro 1 M] =
 (cond (decide (M.length = (0 : Nat)))
 (some (.sl (SK.own (3 : Nat)) 1 []))
 (cond (M.all fun (e : List DV) => e.length == (1 : Nat) && e.all DV.one)
 (cond (decide ((3 : Nat) = (3 : Nat) ∧ (1 : Nat) = (1 : Nat) ∧ (1 : Nat) = (1 : Nat) ∧ (0 : Nat) = (0 : Nat) ∧ (0 : Nat) = (0 : Nat) ∧ M.length * (8 : Nat) ≤ room ∧ M.length ≤ room))
 (cond (decide (M.length = M.length))
 (some (.sl (SK.own (3 : Nat)) 1 M))
 (cond (decide ((0 : Nat) + M.length ≤ M.length))
 (some (.sl (SK.ro) 1 (List.take M.length M)))
 none))
 none)
 none)) from by kernel_rfl).trans (by first | rfl | (simp only [decide_true, decide_false, eq_self, and_true, true_and, and_self, cond_true, cond_false, Nat.le_refl, Int.le_refl, Option.getD_some, Option.getD_none, Int.toNat_natCast, List.take_length, List.drop_zero, Nat.zero_add, List.nil_append, List.all_nil, List.append_nil, Bool.true_and, Bool.and_true, rowsA_sla, rowsA_sl, rowsA_nil, minus_zero, nat_le_cast, nat_nonneg, Option.isSome_some, Option.isSome_none, Bool.false_eq_true, false_and, and_false, if_true, if_false, implies_true, Int.toNat_zero, Bool.not_false, Bool.not_true, bne_self_eq_false]; done) | (simp only [decide_true, decide_false, eq_self, and_true, true_and, and_self, cond_true, cond_false, Nat.le_refl, Int.le_refl, Option.getD_some, Option.getD_none, Int.toNat_natCast, List.take_length, List.drop_zero, Nat.zero_add, List.nil_append, List.all_nil, List.append_nil, Bool.true_and, Bool.and_true, rowsA_sla, rowsA_sl, rowsA_nil, minus_zero, nat_le_cast, nat_nonneg, Option.isSome_some, Option.isSome_none, Bool.false_eq_true, false_and, and_false, if_true, if_false, implies_true, Int.toNat_zero, Bool.not_false, Bool.not_true, bne_self_eq_false]; rfl))
theorem t26n (n : Nat) : FK tab noSp lsp0 20 (n+8) 26 [.nilsl] =
   (some DV.nilsl) :=
  (show FK tab noSp lsp0 20 (n+8) 26 [.nilsl] =
 (some .nilsl) from by kernel_rfl).trans (by first | rfl | (simp only [decide_true, decide_false, eq_self, and_true, true_and, and_self, cond_true, cond_false, Nat.le_refl, Int.le_refl, Option.getD_some, Option.getD_none, Int.toNat_natCast, List.take_length, List.drop_zero, Nat.zero_add, List.nil_append, List.all_nil, List.append_nil, Bool.true_and, Bool.and_true, rowsA_sla, rowsA_sl, rowsA_nil, minus_zero, nat_le_cast, nat_nonneg, Option.isSome_some, Option.isSome_none, Bool.false_eq_true, false_and, and_false, if_true, if_false, implies_true, Int.toNat_zero, Bool.not_false, Bool.not_true, bne_self_eq_false]; done) | (simp only [decide_true, decide_false, eq_self, and_true, true_and, and_self, cond_true, cond_false, Nat.le_refl, Int.le_refl, Option.getD_some, Option.getD_none, Int.toNat_natCast, List.take_length, List.drop_zero, Nat.zero_add, List.nil_append, List.all_nil, List.append_nil, Bool.true_and, Bool.and_true, rowsA_sla, rowsA_sl, rowsA_nil, minus_zero, nat_le_cast, nat_nonneg, Option.isSome_some, Option.isSome_none, Bool.false_eq_true, false_and, and_false, if_true, if_false, implies_true, Int.toNat_zero, Bool.not_false, Bool.not_true, bne_self_eq_false]; rfl))
theorem clo26 (e : Bool) : (cloS e).ok Try.prog 26 := fun ds r hD hv => by
  obtain ⟨x, rfl, hx, hl, hz, hE⟩ := hD
  cases hv
  refine EntX.gen1 hx ?_
  generalize rowsA x = M at *
  cases M with
  | nil =>
    subst hE
    refine EntX.sla (fun _ => ?_) ?_
    · exact EntX.res (r := .nilsl) (spec_run (lsp := lsp0) tab_ok noSp_ok 20 (0 + 8) (t26n 0)) (DLe.nil _ _) rfl
    · exact EntX.res (r := .sl (.own 3) 1 []) (spec_run (lsp := lsp0) tab_ok noSp_ok 20 (0 + 8) (t26 0 [])) (DLe.sl _ _ _) rfl
  | cons a t =>
    subst hE
    refine EntX.sla (fun h => by cases h) ?_
    refine spec_run (lsp := lsp0) tab_ok noSp_ok 20 (0 + 8) ((t26 0 (a :: t)).trans ?_)
    have h1 : ((a :: t).all fun (e : List DV) => e.length == 1 && e.all DV.one) = true := by
      rw [List.all_eq_true]
      intro e he
      rw [one_of (hz e he)]
      rfl
    rw [decide_eq_false (by simp), h1, room_ok (by omega) (by omega)]
    rfl
theorem spc_ok (e : Bool) : ∀ f s, spc e f = some s → s.ok Try.prog f := spAdd_ok (clo26 e) noSp_ok
end Go.Proofs.Ytjejjokdbbedlaa
