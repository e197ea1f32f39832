/- The laws' specs; what is known by hand. No condition. -/
import Derived.Test.YtjejjokdbbedlaaVn
import Derived.Test.YtjejjokdbbedlaaVp
namespace Go.Proofs.Ytjejjokdbbedlaa
open Go Go.Proofs Go.RowKit Vm
set_option linter.unusedVariables false
set_option linter.unusedSimpArgs false
noncomputable def spK : FuncId → Option FSpec := spAdd 8 (mayS decM) (spAdd 14 (hdS hdB) (spAdd 15 samP noSp))
def knoS : FSpec where
  D ds := ds = []
  val ds := some (.bool true)
noncomputable def spV : FuncId → Option FSpec := spAdd 16 isPS (spAdd 15 samP (spAdd 17 (fltS 29) (spAdd 10 (fltS 29) (spAdd 18 (fltS 31) (spAdd 9 (fltS 31) (spAdd 8 (mayS decM) (spAdd 19 (mayS decR) (spAdd 14 (hdS hdB) (spAdd 20 (hdS hdB) (spAdd 13 knoS noSp))))))))))
def uK : List DV := p7 1 0 0 0 2 0 9
def vK : List DV := p7 2 0 0 0 3 0 9
theorem t13 (n : Nat) : FK tab spK lsp0 20 (n+12) 13 [] = need ((mayS decM).D [.sl .tight 7 [uK, vK], .int .i64 1]) (need (samP.D [.sla false 7 [uK], .sl .tight 7 [uK]]) (need ((mayS decM).D [.sl .tight 7 [vK], .int .i64 1]) (need (samP.D [.sla false 7 [vK], .sl .tight 7 [vK]]) (need ((hdS hdB).D [.sl .tight 7 [uK, vK], .sl .tight 1 [[.int .i64 1]]]) (some (.bool true)))))) := by kernel_rfl
theorem t5 (n : Nat) (l M : List (List DV)) (t f : Int) : FK tab spV lsp0 20 (n+12) 5 [.sla false 7 l, .int .i64 t, .int .i64 f, .sla false 1 M] =
   (bif bif decide ((↑l.length : Int) > (60 : Int)) then true else decide ((↑M.length : Int) > (10 : Int)) then some (DV.bool true)
 else
 need (isPS.D [DV.sla false 7 l])
 (bif !isP l then some (DV.bool true)
 else
 need ((fltS (29 : FuncId)).D [DV.sla false 7 l, DV.int .i64 t])
 (need ((fltS (29 : FuncId)).D [DV.sla false 7 l, DV.int .i64 t])
 (need (samP.D [DV.sla false 7 (List.filter (clB (29 : FuncId) t) l), DV.sla false 7 (List.filter (clB (29 : FuncId) t) l)])
 (bif sameP (List.filter (clB (29 : FuncId) t) l) (List.filter (clB (29 : FuncId) t) l) then
 need ((fltS (31 : FuncId)).D [DV.sla false 7 l, DV.int .i64 f])
 (need ((fltS (31 : FuncId)).D [DV.sla false 7 l, DV.int .i64 f])
 (need
 (samP.D [DV.sla false 7 (List.filter (clB (31 : FuncId) f) l), DV.sla false 7 (List.filter (clB (31 : FuncId) f) l)])
 (bif sameP (List.filter (clB (31 : FuncId) f) l) (List.filter (clB (31 : FuncId) f) l) then
 need ((mayS decM).D [DV.sla false 7 l, DV.int .i64 t])
 (need ((mayS decR).D [DV.sla false 7 l, DV.int .i64 t])
 (need
 (samP.D
 [DV.sla false 7
 (outN (List.filter (clB (29 : FuncId) t) l).length (decM (List.filter (clB (29 : FuncId) t) l))
 (rowP (List.filter (clB (29 : FuncId) t) l))),
 DV.sla false 7
 (outN (List.filter (clB (29 : FuncId) t) l).length (decR (List.filter (clB (29 : FuncId) t) l))
 (rowP (List.filter (clB (29 : FuncId) t) l)))])
 (bif
 sameP
 (outN (List.filter (clB (29 : FuncId) t) l).length (decM (List.filter (clB (29 : FuncId) t) l))
 (rowP (List.filter (clB (29 : FuncId) t) l)))
 (outN (List.filter (clB (29 : FuncId) t) l).length (decR (List.filter (clB (29 : FuncId) t) l))
 (rowP (List.filter (clB (29 : FuncId) t) l))) then
 need ((hdS hdB).D [DV.sla false 7 l, DV.sla false 1 M])
 (need ((hdS hdB).D [DV.sla false 7 l, DV.sla false 1 M])
 (need
 (samP.D
 [DV.sla false 7 (outN l.length (hdB M l) (rowP l)),
 DV.sla false 7 (outN l.length (hdB M l) (rowP l))])
 (bif sameP (outN l.length (hdB M l) (rowP l)) (outN l.length (hdB M l) (rowP l)) then
 need (knoS.D []) (some (DV.bool true))
 else some (DV.bool false))))
 else some (DV.bool false))))
 else some (DV.bool false))))
 else some (DV.bool false)))))) :=
  (show FK tab spV lsp0 20 (n+12) 5 [.sla false 7 l, .int .i64 t, .int .i64 f, .sla false 1 M] =
 (cond (bif decide ((↑l.length : Int) > (60 : Int)) then true else decide ((↑M.length : Int) > (10 : Int)))
 (some (.bool true))
 (need (FSpec.D (isPS) [(.sla false 7 l)])
 (cond (!isP (rowsA (DV.sla false 7 l)))
 (some (.bool true))
 (need (FSpec.D (fltS (29 : FuncId)) [(.sla false 7 l), (.int .i64 t)])
 (need (FSpec.D (fltS (29 : FuncId)) [(.sla false 7 l), (.int .i64 t)])
 (need (FSpec.D (samP) [(.sla false 7 (List.filter (clB (29 : FuncId) t) (rowsA (DV.sla false 7 l)))), (.sla false 7 (List.filter (clB (29 : FuncId) t) (rowsA (DV.sla false 7 l))))])
 (cond (sameP (rowsA (DV.sla false 7 (List.filter (clB (29 : FuncId) t) (rowsA (DV.sla false 7 l))))) (rowsA (DV.sla false 7 (List.filter (clB (29 : FuncId) t) (rowsA (DV.sla false 7 l))))))
 (need (FSpec.D (fltS (31 : FuncId)) [(.sla false 7 l), (.int .i64 f)])
 (need (FSpec.D (fltS (31 : FuncId)) [(.sla false 7 l), (.int .i64 f)])
 (need (FSpec.D (samP) [(.sla false 7 (List.filter (clB (31 : FuncId) f) (rowsA (DV.sla false 7 l)))), (.sla false 7 (List.filter (clB (31 : FuncId) f) (rowsA (DV.sla false 7 l))))])
 (cond (sameP (rowsA (DV.sla false 7 (List.filter (clB (31 : FuncId) f) (rowsA (DV.sla false 7 l))))) (rowsA (DV.sla false 7 (List.filter (clB (31 : FuncId) f) (rowsA (DV.sla false 7 l))))))
 (need (FSpec.D (mayS decM) [(.sla false 7 l), (.int .i64 t)])
 (need (FSpec.D (mayS decR) [(.sla false 7 l), (.int .i64 t)])
 (need (FSpec.D (samP) [(.sla false 7 (outN (List.filter (clB (29 : FuncId) t) (rowsA (DV.sla false 7 l))).length (decM (List.filter (clB (29 : FuncId) t) (rowsA (DV.sla false 7 l)))) (rowP (List.filter (clB (29 : FuncId) t) (rowsA (DV.sla false 7 l)))))), (.sla false 7 (outN (List.filter (clB (29 : FuncId) t) (rowsA (DV.sla false 7 l))).length (decR (List.filter (clB (29 : FuncId) t) (rowsA (DV.sla false 7 l)))) (rowP (List.filter (clB (29 : FuncId) t) (rowsA (DV.sla false 7 l))))))])
 (cond (sameP (rowsA (DV.sla false 7 (outN (List.filter (clB (29 : FuncId) t) (rowsA (DV.sla false 7 l))).length (decM (List.filter (clB (29 : FuncId) t) (rowsA (DV.sla false 7 l)))) (rowP (List.filter (clB (29 : FuncId) t) (rowsA (DV.sla false 7 l))))))) (rowsA (DV.sla false 7 (outN (List.filter (clB (29 : FuncId) t) (rowsA (DV.sla false 7 l))).length (decR (List.filter (clB (29 : FuncId) t) (rowsA (DV.sla false 7 l)))) (rowP (List.filter (clB (29 : FuncId) t) (rowsA (DV.sla false 7 l))))))))
 (need (FSpec.D (hdS hdB) [(.sla false 7 l), (.sla false 1 M)])
 (need (FSpec.D (hdS hdB) [(.sla false 7 l), (.sla false 1 M)])
 (need (FSpec.D (samP) [(.sla false 7 (outN (rowsA (DV.sla false 7 l)).length (hdB (rowsA (DV.sla false 1 M)) (rowsA (DV.sla false 7 l))) (rowP (rowsA (DV.sla false 7 l))))), (.sla false 7 (outN (rowsA (DV.sla false 7 l)).length (hdB (rowsA (DV.sla false 1 M)) (rowsA (DV.sla false 7 l))) (rowP (rowsA (DV.sla false 7 l)))))])
 (cond (sameP (rowsA (DV.sla false 7 (outN (rowsA (DV.sla false 7 l)).length (hdB (rowsA (DV.sla false 1 M)) (rowsA (DV.sla false 7 l))) (rowP (rowsA (DV.sla false 7 l)))))) (rowsA (DV.sla false 7 (outN (rowsA (DV.sla false 7 l)).length (hdB (rowsA (DV.sla false 1 M)) (rowsA (DV.sla false 7 l))) (rowP (rowsA (DV.sla false 7 l)))))))
 (need (FSpec.D (knoS) [])
 (some (.bool true)))
 (some (.bool false))))))
 (some (.bool false))))))
 (some (.bool false))))))
 (some (.bool false))))))))) from by kernel_rfl).trans (by first | rfl | (simp only [decide_true, decide_false, eq_self, and_true, true_and, and_self, cond_true, cond_false, Nat.le_refl, Int.le_refl, Option.getD_some, Option.getD_none, Int.toNat_natCast, List.take_length, List.drop_zero, Nat.zero_add, List.nil_append, List.all_nil, List.append_nil, Bool.true_and, Bool.and_true, rowsA_sla, rowsA_sl, rowsA_nil, minus_zero, nat_le_cast, nat_nonneg, Option.isSome_some, Option.isSome_none, Bool.false_eq_true, false_and, and_false, if_true, if_false, implies_true, Int.toNat_zero, Bool.not_false, Bool.not_true, bne_self_eq_false]; done) | (simp only [decide_true, decide_false, eq_self, and_true, true_and, and_self, cond_true, cond_false, Nat.le_refl, Int.le_refl, Option.getD_some, Option.getD_none, Int.toNat_natCast, List.take_length, List.drop_zero, Nat.zero_add, List.nil_append, List.all_nil, List.append_nil, Bool.true_and, Bool.and_true, rowsA_sla, rowsA_sl, rowsA_nil, minus_zero, nat_le_cast, nat_nonneg, Option.isSome_some, Option.isSome_none, Bool.false_eq_true, false_and, and_false, if_true, if_false, implies_true, Int.toNat_zero, Bool.not_false, Bool.not_true, bne_self_eq_false]; rfl))
theorem spK_ok : ∀ f s, spK f = some s → s.ok Try.prog f := spAdd_ok may8S (spAdd_ok heads14S (spAdd_ok same27 noSp_ok))
theorem known13 : knoS.ok Try.prog 13 := fun ds r hD hv => by
  cases hD
  cases hv
  have hu : okRow z7 uK = true := rfl
  have hw : okRow z7 vK = true := rfl
  have h2 : ∀ e ∈ rowsA (.sl .tight 7 [uK, vK]), okRow z7 e = true := fun e he => by
    simp only [rowsA, List.mem_cons, List.not_mem_nil, or_false] at he
    rcases he with rfl | rfl <;> rfl
  have h1 : ∀ x, okRow z7 x = true → ∀ e ∈ [x], okRow z7 e = true := fun x hx e he => by
    rw [List.mem_singleton] at he
    rw [he]
    exact hx
  refine spec_run (lsp := lsp0) tab_ok spK_ok 20 (0 + 12) ((t13 0).trans ?_)
  refine (need_pos ⟨_, _, rfl, Sl.sl _ _ _, by decide, h2⟩).trans ?_
  refine (need_pos ⟨_, _, rfl, ⟨Sl.sla _ _ _, h1 _ hu, by decide⟩, ⟨Sl.sl _ _ _, h1 _ hu, by decide⟩⟩).trans ?_
  refine (need_pos ⟨_, _, rfl, Sl.sl _ _ _, by decide, h1 _ hw⟩).trans ?_
  refine (need_pos ⟨_, _, rfl, ⟨Sl.sla _ _ _, h1 _ hw, by decide⟩, ⟨Sl.sl _ _ _, h1 _ hw, by decide⟩⟩).trans ?_
  refine need_pos ⟨_, _, rfl, Sl.sl _ _ _, Sl.sl _ _ _, by decide, by decide, h2, fun e he => ?_⟩
  simp only [rowsA, List.mem_singleton] at he
  subst he
  exact ⟨rfl, by unfold is64 cel; decide⟩
theorem spV_ok : ∀ f s, spV f = some s → s.ok Try.prog f := spAdd_ok is20 (spAdd_ok same27 (spAdd_ok rdy17 (spAdd_ok rdy10 (spAdd_ok of18 (spAdd_ok of9 (spAdd_ok may8S (spAdd_ok may19 (spAdd_ok heads14S (spAdd_ok heads20 (spAdd_ok known13 noSp_ok))))))))))
end Go.Proofs.Ytjejjokdbbedlaa
