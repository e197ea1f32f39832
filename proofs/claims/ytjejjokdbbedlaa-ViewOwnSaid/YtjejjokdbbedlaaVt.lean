/- Ready, Of, May, Heads: new memory, told apart by who is none. No condition. -/
import Derived.Test.YtjejjokdbbedlaaVq
namespace Go.Proofs.Ytjejjokdbbedlaa
open Go Go.Proofs Go.RowKit Vm
set_option linter.unusedVariables false
set_option linter.unusedSimpArgs false
def ownV (p : Bool) (O : List (List DV)) : DV := cond p (.sl (.own 27) 7 O) .nilsl
def allO (p : Bool) : FSpec where
  D ds := ∃ x g t, ds = [x, .func g [.rptr [.int .i64 t] 0]] ∧ (g = 29 ∨ g = 31) ∧ Sl 7 x ∧ (rowsA x).length ≤ 1000 ∧ (∀ e ∈ rowsA x, okRow z7 e = true) ∧ ((rowsA x).filter (clB g t)).isEmpty = !p
  val ds := match ds with | [x, .func g [.rptr [.int _ t] _]] => some (ownV p ((rowsA x).filter (clB g t))) | _ => none
noncomputable def spAO (p : Bool) : FuncId → Option FSpec := spAdd 22 (allO p) noSp
def fltO (g : FuncId) (p : Bool) : FSpec where
  D ds := ∃ x t, ds = [x, .int .i64 t] ∧ Sl 7 x ∧ (rowsA x).length ≤ 1000 ∧ (∀ e ∈ rowsA x, okRow z7 e = true) ∧ ((rowsA x).filter (clB g t)).isEmpty = !p
  val ds := match ds with | [x, .int _ t] => some (ownV p ((rowsA x).filter (clB g t))) | _ => none
def mayL (r : List (List DV)) (t : Int) : List (List DV) := outN (r.filter (clB 29 t)).length (decM (r.filter (clB 29 t))) (rowP (r.filter (clB 29 t)))
def mayO (p : Bool) : FSpec where
  D ds := ∃ x t, ds = [x, .int .i64 t] ∧ Sl 7 x ∧ (rowsA x).length ≤ 1000 ∧ (∀ e ∈ rowsA x, okRow z7 e = true) ∧ (mayL (rowsA x) t).isEmpty = !p
  val ds := match ds with | [x, .int _ t] => some (ownV p (mayL (rowsA x) t)) | _ => none
def K9 : List (List DV) := [[.int .i64 9], [.int .i64 9], [.int .i64 9]]
def hd9 (r : List (List DV)) : List (List DV) := outN r.length (hdB K9 r) (rowP r)
def hdO (p : Bool) : FSpec where
  D ds := ∃ x y, ds = [x, y] ∧ Sl 7 x ∧ Sl 1 y ∧ (rowsA x).length ≤ 1000 ∧ (∀ e ∈ rowsA x, okRow z7 e = true) ∧ rowsA y = K9 ∧ (hd9 (rowsA x)).isEmpty = !p
  val ds := match ds with | [x, y] => some (ownV p (hd9 (rowsA x))) | _ => none
theorem t17T (n : Nat) (l : List (List DV)) (t : Int) : FK tab (spAO true) lsp0 20 (n+12) 17 [.sla false 7 l, .int .i64 t] =
   (need ((allO true).D [DV.sla false 7 l, DV.func (29 : FuncId) [DV.rptr [DV.int .i64 t] (0 : Nat)]])
 (bif plainLL (List.filter (clB (29 : FuncId) t) l) then some (DV.sl (SK.own (27 : TypeId)) (7 : Nat) (List.filter (clB (29 : FuncId) t) l)) else none)) :=
  (show FK tab (spAO true) lsp0 20 (n+12) 17 [.sla false 7 l, .int .i64 t] =
 (need (FSpec.D (allO true) [(.sla false 7 l), (.func 29 [(.rptr [(.int .i64 t)] 0)])])
 (cond (plainLL (List.filter (clB (29 : FuncId) t) (rowsA (DV.sla false 7 l))))
 (cond (decide ((List.filter (clB (29 : FuncId) t) (rowsA (DV.sla false 7 l))).length = (List.filter (clB (29 : FuncId) t) (rowsA (DV.sla false 7 l))).length))
 (some (.sl (SK.own (27 : TypeId)) 7 (List.filter (clB (29 : FuncId) t) (rowsA (DV.sla false 7 l)))))
 (cond (decide ((0 : Nat) + (List.filter (clB (29 : FuncId) t) (rowsA (DV.sla false 7 l))).length ≤ (List.filter (clB (29 : FuncId) t) (rowsA (DV.sla false 7 l))).length))
 (some (.sl (SK.ro) 7 (List.take (List.filter (clB (29 : FuncId) t) (rowsA (DV.sla false 7 l))).length (List.filter (clB (29 : FuncId) t) (rowsA (DV.sla false 7 l))))))
 none))
 none)) from by kernel_rfl).trans (by first | rfl | (simp only [decide_true, decide_false, eq_self, and_true, true_and, and_self, cond_true, cond_false, Nat.le_refl, Int.le_refl, Option.getD_some, Option.getD_none, Int.toNat_natCast, List.take_length, List.drop_zero, Nat.zero_add, List.nil_append, List.all_nil, List.append_nil, Bool.true_and, Bool.and_true, rowsA_sla, rowsA_sl, rowsA_nil, minus_zero, nat_le_cast, nat_nonneg, Option.isSome_some, Option.isSome_none, Bool.false_eq_true, false_and, and_false, if_true, if_false, implies_true, Int.toNat_zero, Bool.not_false, Bool.not_true, bne_self_eq_false]; done) | (simp only [decide_true, decide_false, eq_self, and_true, true_and, and_self, cond_true, cond_false, Nat.le_refl, Int.le_refl, Option.getD_some, Option.getD_none, Int.toNat_natCast, List.take_length, List.drop_zero, Nat.zero_add, List.nil_append, List.all_nil, List.append_nil, Bool.true_and, Bool.and_true, rowsA_sla, rowsA_sl, rowsA_nil, minus_zero, nat_le_cast, nat_nonneg, Option.isSome_some, Option.isSome_none, Bool.false_eq_true, false_and, and_false, if_true, if_false, implies_true, Int.toNat_zero, Bool.not_false, Bool.not_true, bne_self_eq_false]; rfl))
theorem t17F (n : Nat) (l : List (List DV)) (t : Int) : FK tab (spAO false) lsp0 20 (n+12) 17 [.sla false 7 l, .int .i64 t] =
   (need ((allO false).D [DV.sla false 7 l, DV.func (29 : FuncId) [DV.rptr [DV.int .i64 t] (0 : Nat)]]) (some DV.nilsl)) :=
  (show FK tab (spAO false) lsp0 20 (n+12) 17 [.sla false 7 l, .int .i64 t] =
 (need (FSpec.D (allO false) [(.sla false 7 l), (.func 29 [(.rptr [(.int .i64 t)] 0)])])
 (some .nilsl)) from by kernel_rfl).trans (by first | rfl | (simp only [decide_true, decide_false, eq_self, and_true, true_and, and_self, cond_true, cond_false, Nat.le_refl, Int.le_refl, Option.getD_some, Option.getD_none, Int.toNat_natCast, List.take_length, List.drop_zero, Nat.zero_add, List.nil_append, List.all_nil, List.append_nil, Bool.true_and, Bool.and_true, rowsA_sla, rowsA_sl, rowsA_nil, minus_zero, nat_le_cast, nat_nonneg, Option.isSome_some, Option.isSome_none, Bool.false_eq_true, false_and, and_false, if_true, if_false, implies_true, Int.toNat_zero, Bool.not_false, Bool.not_true, bne_self_eq_false]; done) | (simp only [decide_true, decide_false, eq_self, and_true, true_and, and_self, cond_true, cond_false, Nat.le_refl, Int.le_refl, Option.getD_some, Option.getD_none, Int.toNat_natCast, List.take_length, List.drop_zero, Nat.zero_add, List.nil_append, List.all_nil, List.append_nil, Bool.true_and, Bool.and_true, rowsA_sla, rowsA_sl, rowsA_nil, minus_zero, nat_le_cast, nat_nonneg, Option.isSome_some, Option.isSome_none, Bool.false_eq_true, false_and, and_false, if_true, if_false, implies_true, Int.toNat_zero, Bool.not_false, Bool.not_true, bne_self_eq_false]; rfl))
theorem t18T (n : Nat) (l : List (List DV)) (t : Int) : FK tab (spAO true) lsp0 20 (n+12) 18 [.sla false 7 l, .int .i64 t] =
   (need ((allO true).D [DV.sla false 7 l, DV.func (31 : FuncId) [DV.rptr [DV.int .i64 t] (0 : Nat)]])
 (bif plainLL (List.filter (clB (31 : FuncId) t) l) then some (DV.sl (SK.own (27 : TypeId)) (7 : Nat) (List.filter (clB (31 : FuncId) t) l)) else none)) :=
  (show FK tab (spAO true) lsp0 20 (n+12) 18 [.sla false 7 l, .int .i64 t] =
 (need (FSpec.D (allO true) [(.sla false 7 l), (.func 31 [(.rptr [(.int .i64 t)] 0)])])
 (cond (plainLL (List.filter (clB (31 : FuncId) t) (rowsA (DV.sla false 7 l))))
 (cond (decide ((List.filter (clB (31 : FuncId) t) (rowsA (DV.sla false 7 l))).length = (List.filter (clB (31 : FuncId) t) (rowsA (DV.sla false 7 l))).length))
 (some (.sl (SK.own (27 : TypeId)) 7 (List.filter (clB (31 : FuncId) t) (rowsA (DV.sla false 7 l)))))
 (cond (decide ((0 : Nat) + (List.filter (clB (31 : FuncId) t) (rowsA (DV.sla false 7 l))).length ≤ (List.filter (clB (31 : FuncId) t) (rowsA (DV.sla false 7 l))).length))
 (some (.sl (SK.ro) 7 (List.take (List.filter (clB (31 : FuncId) t) (rowsA (DV.sla false 7 l))).length (List.filter (clB (31 : FuncId) t) (rowsA (DV.sla false 7 l))))))
 none))
 none)) from by kernel_rfl).trans (by first | rfl | (simp only [decide_true, decide_false, eq_self, and_true, true_and, and_self, cond_true, cond_false, Nat.le_refl, Int.le_refl, Option.getD_some, Option.getD_none, Int.toNat_natCast, List.take_length, List.drop_zero, Nat.zero_add, List.nil_append, List.all_nil, List.append_nil, Bool.true_and, Bool.and_true, rowsA_sla, rowsA_sl, rowsA_nil, minus_zero, nat_le_cast, nat_nonneg, Option.isSome_some, Option.isSome_none, Bool.false_eq_true, false_and, and_false, if_true, if_false, implies_true, Int.toNat_zero, Bool.not_false, Bool.not_true, bne_self_eq_false]; done) | (simp only [decide_true, decide_false, eq_self, and_true, true_and, and_self, cond_true, cond_false, Nat.le_refl, Int.le_refl, Option.getD_some, Option.getD_none, Int.toNat_natCast, List.take_length, List.drop_zero, Nat.zero_add, List.nil_append, List.all_nil, List.append_nil, Bool.true_and, Bool.and_true, rowsA_sla, rowsA_sl, rowsA_nil, minus_zero, nat_le_cast, nat_nonneg, Option.isSome_some, Option.isSome_none, Bool.false_eq_true, false_and, and_false, if_true, if_false, implies_true, Int.toNat_zero, Bool.not_false, Bool.not_true, bne_self_eq_false]; rfl))
theorem t18F (n : Nat) (l : List (List DV)) (t : Int) : FK tab (spAO false) lsp0 20 (n+12) 18 [.sla false 7 l, .int .i64 t] =
   (need ((allO false).D [DV.sla false 7 l, DV.func (31 : FuncId) [DV.rptr [DV.int .i64 t] (0 : Nat)]]) (some DV.nilsl)) :=
  (show FK tab (spAO false) lsp0 20 (n+12) 18 [.sla false 7 l, .int .i64 t] =
 (need (FSpec.D (allO false) [(.sla false 7 l), (.func 31 [(.rptr [(.int .i64 t)] 0)])])
 (some .nilsl)) from by kernel_rfl).trans (by first | rfl | (simp only [decide_true, decide_false, eq_self, and_true, true_and, and_self, cond_true, cond_false, Nat.le_refl, Int.le_refl, Option.getD_some, Option.getD_none, Int.toNat_natCast, List.take_length, List.drop_zero, Nat.zero_add, List.nil_append, List.all_nil, List.append_nil, Bool.true_and, Bool.and_true, rowsA_sla, rowsA_sl, rowsA_nil, minus_zero, nat_le_cast, nat_nonneg, Option.isSome_some, Option.isSome_none, Bool.false_eq_true, false_and, and_false, if_true, if_false, implies_true, Int.toNat_zero, Bool.not_false, Bool.not_true, bne_self_eq_false]; done) | (simp only [decide_true, decide_false, eq_self, and_true, true_and, and_self, cond_true, cond_false, Nat.le_refl, Int.le_refl, Option.getD_some, Option.getD_none, Int.toNat_natCast, List.take_length, List.drop_zero, Nat.zero_add, List.nil_append, List.all_nil, List.append_nil, Bool.true_and, Bool.and_true, rowsA_sla, rowsA_sl, rowsA_nil, minus_zero, nat_le_cast, nat_nonneg, Option.isSome_some, Option.isSome_none, Bool.false_eq_true, false_and, and_false, if_true, if_false, implies_true, Int.toNat_zero, Bool.not_false, Bool.not_true, bne_self_eq_false]; rfl))
theorem plain_rows : ∀ {l : List (List DV)}, (∀ e ∈ l, okRow z7 e = true) → plainLL l = true
  | [], _ => rfl
  | x :: l, h => by
    obtain ⟨a0, a1, a2, a3, a4, a5, a6, he⟩ := okRow_p (h x (List.mem_cons_self ..))
    rw [he]
    exact plain_rows (l := l) fun e he => h e (List.mem_cons_of_mem _ he)
theorem own_of {p : Bool} {O : List (List DV)} (h : plainLL O = true) : cond p (cond (plainLL O) (some (.sl (.own 27) 7 O)) none) (some .nilsl) = some (ownV p O) := by
  rw [h]
  cases p <;> rfl
theorem t17o (p : Bool) (n : Nat) (l : List (List DV)) (t : Int) : FK tab (spAO p) lsp0 20 (n+12) 17 [.sla false 7 l, .int .i64 t] = need ((allO p).D [.sla false 7 l, .func 29 [.rptr [.int .i64 t] 0]]) (cond p (cond (plainLL (l.filter (clB 29 t))) (some (.sl (.own 27) 7 (l.filter (clB 29 t)))) none) (some .nilsl)) := by
  cases p
  · exact t17F n l t
  · exact t17T n l t
theorem t18o (p : Bool) (n : Nat) (l : List (List DV)) (t : Int) : FK tab (spAO p) lsp0 20 (n+12) 18 [.sla false 7 l, .int .i64 t] = need ((allO p).D [.sla false 7 l, .func 31 [.rptr [.int .i64 t] 0]]) (cond p (cond (plainLL (l.filter (clB 31 t))) (some (.sl (.own 27) 7 (l.filter (clB 31 t)))) none) (some .nilsl)) := by
  cases p
  · exact t18F n l t
  · exact t18T n l t
theorem resV_own {O : List (List DV)} {p : Bool} (h : O.isEmpty = !p) : resV O = ownV p O := by
  unfold resV ownV
  rw [h]
  cases p <;> rfl
theorem allO_ok (p : Bool) : (allO p).ok Try.prog 22 := fun ds r hD hv => by
  obtain ⟨x, g, t, rfl, hg, hx, hl, hz, hp⟩ := hD
  cases hv
  refine EntX.gen1 hx ?_
  have h := allPure (g := g) (caps := [.rptr [.int .i64 t] 0]) (φ := clB g t) (l := rowsA x) (fun e => by
    rcases hg with rfl | rfl
    · exact cl29 e t
    · exact cl31 e t) hz hl
  rw [outN_filter hz, resV_own hp] at h
  exact h
theorem spAO_ok (p : Bool) : ∀ f s, spAO p f = some s → s.ok Try.prog f := spAdd_ok (allO_ok p) noSp_ok
theorem rdy17o (p : Bool) : (fltO 29 p).ok Try.prog 17 := fun ds r hD hv => by
  obtain ⟨x, t, rfl, hx, hl, hz, hp⟩ := hD
  cases hv
  refine EntX.gen1 hx ?_
  exact spec_run (lsp := lsp0) tab_ok (spAO_ok p) 20 (0 + 12) ((t17o p 0 (rowsA x) t).trans ((need_pos ⟨_, _, _, rfl, .inl rfl, Sl.sla _ _ _, hl, hz, hp⟩).trans (own_of (plain_rows fun e he => hz e (List.mem_filter.1 he).1))))
theorem of18o (p : Bool) : (fltO 31 p).ok Try.prog 18 := fun ds r hD hv => by
  obtain ⟨x, t, rfl, hx, hl, hz, hp⟩ := hD
  cases hv
  refine EntX.gen1 hx ?_
  exact spec_run (lsp := lsp0) tab_ok (spAO_ok p) 20 (0 + 12) ((t18o p 0 (rowsA x) t).trans ((need_pos ⟨_, _, _, rfl, .inr rfl, Sl.sla _ _ _, hl, hz, hp⟩).trans (own_of (plain_rows fun e he => hz e (List.mem_filter.1 he).1))))
theorem may8o (p : Bool) : (mayO p).ok Try.prog 8 := fun ds r hD hv => by
  obtain ⟨x, t, rfl, hx, hl, hz, hp⟩ := hD
  cases hv
  refine EntX.gen1 hx ?_
  have h := may8 hz hl t
  rw [show resV (outN ((rowsA x).filter (clB 29 t)).length (decM ((rowsA x).filter (clB 29 t))) (rowP ((rowsA x).filter (clB 29 t)))) = ownV p (mayL (rowsA x) t) from resV_own hp] at h
  exact h
theorem ints9 : Ints K9 := fun e he => by
  simp only [K9, List.mem_cons, List.not_mem_nil, or_false, or_self] at he
  subst he
  exact ⟨rfl, by unfold is64 cel; decide⟩
theorem heads14o (p : Bool) : (hdO p).ok Try.prog 14 := fun ds r hD hv => by
  obtain ⟨x, y, rfl, hx, hy, hl, hz, he, hp⟩ := hD
  cases hv
  refine EntX.gen2 hx hy ?_
  rw [he]
  have h := heads14 hz hl ints9 (by decide) (by rfl)
  rw [outN_hd, show resV (outN (rowsA x).length (hdB K9 (rowsA x)) (rowP (rowsA x))) = ownV p (hd9 (rowsA x)) from resV_own hp] at h
  exact h
end Go.Proofs.Ytjejjokdbbedlaa
