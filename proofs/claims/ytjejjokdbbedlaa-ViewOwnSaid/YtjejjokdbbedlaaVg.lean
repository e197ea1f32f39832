/- view.all and slices.ContainsFunc with closures that change nothing. No condition. -/
import Derived.Test.YtjejjokdbbedlaaVf
namespace Go.Proofs.Ytjejjokdbbedlaa
open Go Go.Proofs Go.RowKit Vm
set_option linter.unusedVariables false
set_option linter.unusedSimpArgs false
def pv (e : List DV) : DV := .agg [.int .i64 (cellA e 0).toI, .int .i64 (cellA e 1).toI, .int .i64 (cellA e 2).toI, .int .i64 (cellA e 3).toI, .int .i64 (cellA e 4).toI, .int .i64 (cellA e 5).toI, .int .i64 (cellA e 6).toI]
def rdy (t : Int) (e : List DV) : Bool := bif decide (t ≥ (cellA e 5).toI) then decide (t ≤ (cellA e 6).toI) else false
def hiB (p e : List DV) : Bool := bif (cellA e 1).toI == (cellA p 1).toI then (cellA e 4).toI != 3 else false
def clB (g : FuncId) (t : Int) (e : List DV) : Bool := cond (Nat.beq g 29) (rdy t e) (frm e == t)
def allS : FSpec where
  D ds := ∃ x g t, ds = [x, .func g [.rptr [.int .i64 t] 0]] ∧ (g = 29 ∨ g = 31) ∧ Sl 7 x ∧ (rowsA x).length ≤ 1000 ∧ ∀ e ∈ rowsA x, okRow z7 e = true
  val ds := match ds with | [x, .func g [.rptr [.int _ t] _]] => some (.sla false 7 ((rowsA x).filter (clB g t))) | _ => none
def cl24S : FSpec where
  D ds := ∃ e a0 a1 a2 a3 a4 a5 a6, ds = [pv e, .rptr (p7 a0 a1 a2 a3 a4 a5 a6) 0]
  val ds := match ds with | [.agg e, .rptr p _] => some (.bool (hiB p e)) | _ => none
noncomputable def spA : FuncId → Option FSpec := spAdd 22 allS noSp
noncomputable def spH : FuncId → Option FSpec := spAdd 24 cl24S noSp
def idxF (φ : List DV → Bool) : List (List DV) → Nat → Int
  | [], _ => -1
  | e :: l, i => cond (φ e) (i : Int) (idxF φ l (i + 1))
def k24 (a0 a1 a2 a3 a4 a5 a6 : Int) : DV := .func 24 [.rptr (p7 a0 a1 a2 a3 a4 a5 a6) 0]
def cHi (c : DV) (e : List DV) : Bool := match c with | .func _ [.rptr p _] => hiB p e | _ => false
def l340 : LSpec := fun st => match st.env 0, st.env 1 with
  | .d (.sla _ _ l), .d c => .br (l.any (cHi c)) (.one .ret (St.of [(4, .d (.int .i64 (idxF (cHi c) l 0)))] [])) (.one (.ex 0) (St.of [] []))
  | _, _ => .no
def lE (k : Nat) : Option LSpec := if k = 340 then some l340 else none
def S340 (l : List (List DV)) (c : DV) (i : Int) : St := St.of [(0, .d (.sla false 7 l)), (1, .d c), (7, .d (.int .i64 (l.length : Int))), (8, .d (.int .i64 i))] []
theorem t29 (n : Nat) (e : List DV) (t : Int) : FK tab noSp lsp0 20 (n+12) 29 [pv e, .rptr [.int .i64 t] 0] =
   (some (DV.bool (bif decide (t ≥ (cellA e 5).toI) then decide (t ≤ (cellA e 6).toI) else false))) :=
  (show FK tab noSp lsp0 20 (n+12) 29 [pv e, .rptr [.int .i64 t] 0] =
 (some (.bool (bif decide (t ≥ (cellA e 5).toI) then decide (t ≤ (cellA e 6).toI) else false))) from by kernel_rfl).trans (by first | rfl | (simp only [decide_true, decide_false, eq_self, and_true, true_and, and_self, cond_true, cond_false, Nat.le_refl, Int.le_refl, Option.getD_some, Option.getD_none, Int.toNat_natCast, List.take_length, List.drop_zero, Nat.zero_add, List.nil_append, List.all_nil, List.append_nil, Bool.true_and, Bool.and_true, rowsA_sla, rowsA_sl, rowsA_nil, minus_zero, nat_le_cast, nat_nonneg, Option.isSome_some, Option.isSome_none, Bool.false_eq_true, false_and, and_false, if_true, if_false, implies_true, Int.toNat_zero, Bool.not_false, Bool.not_true, bne_self_eq_false]; done) | (simp only [decide_true, decide_false, eq_self, and_true, true_and, and_self, cond_true, cond_false, Nat.le_refl, Int.le_refl, Option.getD_some, Option.getD_none, Int.toNat_natCast, List.take_length, List.drop_zero, Nat.zero_add, List.nil_append, List.all_nil, List.append_nil, Bool.true_and, Bool.and_true, rowsA_sla, rowsA_sl, rowsA_nil, minus_zero, nat_le_cast, nat_nonneg, Option.isSome_some, Option.isSome_none, Bool.false_eq_true, false_and, and_false, if_true, if_false, implies_true, Int.toNat_zero, Bool.not_false, Bool.not_true, bne_self_eq_false]; rfl))
theorem t31 (n : Nat) (e : List DV) (t : Int) : FK tab noSp lsp0 20 (n+12) 31 [pv e, .rptr [.int .i64 t] 0] =
   (some (DV.bool ((cellA e 1).toI == t))) :=
  (show FK tab noSp lsp0 20 (n+12) 31 [pv e, .rptr [.int .i64 t] 0] =
 (some (.bool ((cellA e 1).toI == t))) from by kernel_rfl).trans (by first | rfl | (simp only [decide_true, decide_false, eq_self, and_true, true_and, and_self, cond_true, cond_false, Nat.le_refl, Int.le_refl, Option.getD_some, Option.getD_none, Int.toNat_natCast, List.take_length, List.drop_zero, Nat.zero_add, List.nil_append, List.all_nil, List.append_nil, Bool.true_and, Bool.and_true, rowsA_sla, rowsA_sl, rowsA_nil, minus_zero, nat_le_cast, nat_nonneg, Option.isSome_some, Option.isSome_none, Bool.false_eq_true, false_and, and_false, if_true, if_false, implies_true, Int.toNat_zero, Bool.not_false, Bool.not_true, bne_self_eq_false]; done) | (simp only [decide_true, decide_false, eq_self, and_true, true_and, and_self, cond_true, cond_false, Nat.le_refl, Int.le_refl, Option.getD_some, Option.getD_none, Int.toNat_natCast, List.take_length, List.drop_zero, Nat.zero_add, List.nil_append, List.all_nil, List.append_nil, Bool.true_and, Bool.and_true, rowsA_sla, rowsA_sl, rowsA_nil, minus_zero, nat_le_cast, nat_nonneg, Option.isSome_some, Option.isSome_none, Bool.false_eq_true, false_and, and_false, if_true, if_false, implies_true, Int.toNat_zero, Bool.not_false, Bool.not_true, bne_self_eq_false]; rfl))
theorem t24 (n : Nat) (e : List DV) (a0 a1 a2 a3 a4 a5 a6 : Int) : FK tab noSp lsp0 20 (n+12) 24 [pv e, .rptr (p7 a0 a1 a2 a3 a4 a5 a6) 0] =
   (some (DV.bool (bif (cellA e 1).toI == a1 then (cellA e 4).toI != (3 : Int) else false))) :=
  (show FK tab noSp lsp0 20 (n+12) 24 [pv e, .rptr (p7 a0 a1 a2 a3 a4 a5 a6) 0] =
 (some (.bool (bif (cellA e 1).toI == a1 then (cellA e 4).toI != (3 : Int) else false))) from by kernel_rfl).trans (by first | rfl | (simp only [decide_true, decide_false, eq_self, and_true, true_and, and_self, cond_true, cond_false, Nat.le_refl, Int.le_refl, Option.getD_some, Option.getD_none, Int.toNat_natCast, List.take_length, List.drop_zero, Nat.zero_add, List.nil_append, List.all_nil, List.append_nil, Bool.true_and, Bool.and_true, rowsA_sla, rowsA_sl, rowsA_nil, minus_zero, nat_le_cast, nat_nonneg, Option.isSome_some, Option.isSome_none, Bool.false_eq_true, false_and, and_false, if_true, if_false, implies_true, Int.toNat_zero, Bool.not_false, Bool.not_true, bne_self_eq_false]; done) | (simp only [decide_true, decide_false, eq_self, and_true, true_and, and_self, cond_true, cond_false, Nat.le_refl, Int.le_refl, Option.getD_some, Option.getD_none, Int.toNat_natCast, List.take_length, List.drop_zero, Nat.zero_add, List.nil_append, List.all_nil, List.append_nil, Bool.true_and, Bool.and_true, rowsA_sla, rowsA_sl, rowsA_nil, minus_zero, nat_le_cast, nat_nonneg, Option.isSome_some, Option.isSome_none, Bool.false_eq_true, false_and, and_false, if_true, if_false, implies_true, Int.toNat_zero, Bool.not_false, Bool.not_true, bne_self_eq_false]; rfl))
theorem t17 (n : Nat) (l : List (List DV)) (t : Int) : FK tab spA lsp0 20 (n+12) 17 [.sla false 7 l, .int .i64 t] =
   (need (allS.D [DV.sla false 7 l, DV.func (29 : FuncId) [DV.rptr [DV.int .i64 t] (0 : Nat)]])
 (some (DV.sla false 7 (List.filter (clB (29 : FuncId) t) l)))) :=
  (show FK tab spA lsp0 20 (n+12) 17 [.sla false 7 l, .int .i64 t] =
 (need (FSpec.D (allS) [(.sla false 7 l), (.func 29 [(.rptr [(.int .i64 t)] 0)])])
 (some (.sla false 7 (List.filter (clB (29 : FuncId) t) (rowsA (DV.sla false 7 l)))))) from by kernel_rfl).trans (by first | rfl | (simp only [decide_true, decide_false, eq_self, and_true, true_and, and_self, cond_true, cond_false, Nat.le_refl, Int.le_refl, Option.getD_some, Option.getD_none, Int.toNat_natCast, List.take_length, List.drop_zero, Nat.zero_add, List.nil_append, List.all_nil, List.append_nil, Bool.true_and, Bool.and_true, rowsA_sla, rowsA_sl, rowsA_nil, minus_zero, nat_le_cast, nat_nonneg, Option.isSome_some, Option.isSome_none, Bool.false_eq_true, false_and, and_false, if_true, if_false, implies_true, Int.toNat_zero, Bool.not_false, Bool.not_true, bne_self_eq_false]; done) | (simp only [decide_true, decide_false, eq_self, and_true, true_and, and_self, cond_true, cond_false, Nat.le_refl, Int.le_refl, Option.getD_some, Option.getD_none, Int.toNat_natCast, List.take_length, List.drop_zero, Nat.zero_add, List.nil_append, List.all_nil, List.append_nil, Bool.true_and, Bool.and_true, rowsA_sla, rowsA_sl, rowsA_nil, minus_zero, nat_le_cast, nat_nonneg, Option.isSome_some, Option.isSome_none, Bool.false_eq_true, false_and, and_false, if_true, if_false, implies_true, Int.toNat_zero, Bool.not_false, Bool.not_true, bne_self_eq_false]; rfl))
theorem t18 (n : Nat) (l : List (List DV)) (t : Int) : FK tab spA lsp0 20 (n+12) 18 [.sla false 7 l, .int .i64 t] =
   (need (allS.D [DV.sla false 7 l, DV.func (31 : FuncId) [DV.rptr [DV.int .i64 t] (0 : Nat)]])
 (some (DV.sla false 7 (List.filter (clB (31 : FuncId) t) l)))) :=
  (show FK tab spA lsp0 20 (n+12) 18 [.sla false 7 l, .int .i64 t] =
 (need (FSpec.D (allS) [(.sla false 7 l), (.func 31 [(.rptr [(.int .i64 t)] 0)])])
 (some (.sla false 7 (List.filter (clB (31 : FuncId) t) (rowsA (DV.sla false 7 l)))))) from by kernel_rfl).trans (by first | rfl | (simp only [decide_true, decide_false, eq_self, and_true, true_and, and_self, cond_true, cond_false, Nat.le_refl, Int.le_refl, Option.getD_some, Option.getD_none, Int.toNat_natCast, List.take_length, List.drop_zero, Nat.zero_add, List.nil_append, List.all_nil, List.append_nil, Bool.true_and, Bool.and_true, rowsA_sla, rowsA_sl, rowsA_nil, minus_zero, nat_le_cast, nat_nonneg, Option.isSome_some, Option.isSome_none, Bool.false_eq_true, false_and, and_false, if_true, if_false, implies_true, Int.toNat_zero, Bool.not_false, Bool.not_true, bne_self_eq_false]; done) | (simp only [decide_true, decide_false, eq_self, and_true, true_and, and_self, cond_true, cond_false, Nat.le_refl, Int.le_refl, Option.getD_some, Option.getD_none, Int.toNat_natCast, List.take_length, List.drop_zero, Nat.zero_add, List.nil_append, List.all_nil, List.append_nil, Bool.true_and, Bool.and_true, rowsA_sla, rowsA_sl, rowsA_nil, minus_zero, nat_le_cast, nat_nonneg, Option.isSome_some, Option.isSome_none, Bool.false_eq_true, false_and, and_false, if_true, if_false, implies_true, Int.toNat_zero, Bool.not_false, Bool.not_true, bne_self_eq_false]; rfl))
theorem s340 (L n : Nat) (l : List (List DV)) (a0 a1 a2 a3 a4 a5 a6 : Int) (i : Nat) (k : Kont) : LB tab spH lE L (n+4) h340 c34l0 (S340 l (k24 a0 a1 a2 a3 a4 a5 a6) i) k =
  cond (decide ((i : Int) < (l.length : Int))) (lookK l[((i : Nat) : Int).toNat]? fun e => cond (okRow z7 e) (need (cl24S.D [pv e, .rptr (p7 a0 a1 a2 a3 a4 a5 a6) 0]) (cond (cHi (k24 a0 a1 a2 a3 a4 a5 a6) e) (k .ret (St.of [(4, .d (.int .i64 i))] [])) (k .nrm (S340 l (k24 a0 a1 a2 a3 a4 a5 a6) (IntKind.i64.wrap ((i : Int) + 1)))))) none) (k (.ex 0) (St.of [] [])) := by kernel_rfl
theorem t25 (n : Nat) (l : List (List DV)) (g : FuncId) (caps : List DV) : FK tab spH lE 20 (n+12) 25 [.sla false 7 l, .func g caps] =
  cond (l.any (cHi (.func g caps))) (need (LoopOk (LB tab spH lE 20 (n+11) h340 c34l0) (S340 l (.func g caps) 0) (.ret, St.of [(4, .d (.int .i64 (idxF (cHi (.func g caps)) l 0)))] [])) (some (.bool (decide (idxF (cHi (.func g caps)) l 0 ≥ (0 : Int))))))
    (need (LoopOk (LB tab spH lE 20 (n+11) h340 c34l0) (S340 l (.func g caps) 0) (.ex 0, St.of [] [])) (some (.bool false))) := by kernel_rfl
theorem cl29 (e : List DV) (t : Int) : EntX Try.prog 29 [pv e, .rptr [.int .i64 t] 0] (.bool (rdy t e)) := spec_run (lsp := lsp0) tab_ok noSp_ok 20 (0 + 12) (t29 0 e t)
theorem cl31 (e : List DV) (t : Int) : EntX Try.prog 31 [pv e, .rptr [.int .i64 t] 0] (.bool (frm e == t)) := spec_run (lsp := lsp0) tab_ok noSp_ok 20 (0 + 12) (t31 0 e t)
theorem cl24 : cl24S.ok Try.prog 24 := fun ds r hD hv => by
  obtain ⟨e, a0, a1, a2, a3, a4, a5, a6, rfl⟩ := hD
  cases hv
  exact spec_run (lsp := lsp0) tab_ok noSp_ok 20 (0 + 12) (t24 0 e a0 a1 a2 a3 a4 a5 a6)
theorem spH_ok : ∀ f s, spH f = some s → s.ok Try.prog f := spAdd_ok cl24 noSp_ok
theorem idxF_any {φ : List DV → Bool} : ∀ {l : List (List DV)} {i : Nat}, l.any φ = true → 0 ≤ idxF φ l i
  | [], _, h => by simp at h
  | e :: l, i, h => by
    unfold idxF
    cases he : φ e with
    | true => exact Int.natCast_nonneg i
    | false =>
      rw [cond_false]
      refine idxF_any ?_
      rw [List.any_cons, he, Bool.false_or] at h
      exact h
theorem loop340 {L n : Nat} {l : List (List DV)} {c : DV} (hl : l.length ≤ 1000000)
    (hs : ∀ (i : Nat) (hi : i < l.length) (k : Kont), LB tab spH lE L (n+4) h340 c34l0 (S340 l c i) k = cond (cHi c l[i]) (k .ret (St.of [(4, .d (.int .i64 i))] [])) (k .nrm (S340 l c ((i + 1 : Nat) : Int))))
    (he : ∀ k : Kont, LB tab spH lE L (n+4) h340 c34l0 (S340 l c (l.length : Nat)) k = k (.ex 0) (St.of [] [])) :
    LoopOk (LB tab spH lE L (n+4) h340 c34l0) (S340 l c 0) (cond (l.any (cHi c)) (.ret, St.of [(4, .d (.int .i64 (idxF (cHi c) l 0)))] []) (.ex 0, St.of [] [])) := by
  have hR : ∀ i, i ≤ l.length → LoopOk (LB tab spH lE L (n+4) h340 c34l0) (S340 l c (i : Nat)) (cond ((l.drop i).any (cHi c)) (.ret, St.of [(4, .d (.int .i64 (idxF (cHi c) (l.drop i) i)))] []) (.ex 0, St.of [] [])) := by
    refine loop_rounds (fun i : Nat => S340 l c (i : Nat)) (fun i => cond ((l.drop i).any (cHi c)) (.ret, St.of [(4, .d (.int .i64 (idxF (cHi c) (l.drop i) i)))] []) (.ex 0, St.of [] [])) l.length (fun i hi => ?_) ?_
    · have hx : idxF (cHi c) (l[i] :: l.drop (i + 1)) i = cond (cHi c l[i]) (i : Int) (idxF (cHi c) (l.drop (i + 1)) (i + 1)) := rfl
      rw [List.drop_eq_getElem_cons hi, List.any_cons, hx]
      cases h : cHi c l[i] with
      | true =>
        right
        rw [Bool.true_or, cond_true, cond_true]
        exact ⟨by simp, fun k => by rw [hs i hi, h, cond_true]⟩
      | false =>
        left
        rw [Bool.false_or, cond_false]
        exact ⟨fun k => by rw [hs i hi, h, cond_false], rfl⟩
    · rw [List.drop_length]
      exact ⟨by simp, fun k => he k⟩
  exact hR 0 (Nat.zero_le _)
def conS : FSpec where
  D ds := ∃ x a0 a1 a2 a3 a4 a5 a6, ds = [x, k24 a0 a1 a2 a3 a4 a5 a6] ∧ Sl 7 x ∧ (rowsA x).length ≤ 1000000 ∧ ∀ e ∈ rowsA x, okRow z7 e = true
  val ds := match ds with | [x, c] => some (.bool ((rowsA x).any (cHi c))) | _ => none
theorem con25 : conS.ok Try.prog 25 := fun ds r hD hv => by
  obtain ⟨x, a0, a1, a2, a3, a4, a5, a6, rfl, hx, hl, hz⟩ := hD
  cases hv
  refine EntX.gen1 hx ?_
  refine spec_run (lsp := lE) tab_ok spH_ok 20 (0 + 12) ((t25 0 (rowsA x) 24 [.rptr (p7 a0 a1 a2 a3 a4 a5 a6) 0]).trans ?_)
  have h : LoopOk (LB tab spH lE 20 (0 + 7 + 4) h340 c34l0) (S340 (rowsA x) (k24 a0 a1 a2 a3 a4 a5 a6) 0) (cond ((rowsA x).any (cHi (k24 a0 a1 a2 a3 a4 a5 a6))) (.ret, St.of [(4, .d (.int .i64 (idxF (cHi (k24 a0 a1 a2 a3 a4 a5 a6)) (rowsA x) 0)))] []) (.ex 0, St.of [] [])) := by
    refine loop340 hl (fun i hi k => ?_) fun k => ?_
    · rw [s340, lt_dec hi, cond_true, look_at hi, hz _ (List.getElem_mem hi), cond_true, wrap_succ (by omega)]
      exact need_pos ⟨_, _, _, _, _, _, _, _, rfl⟩
    · rw [s340, lt_dec_self, cond_false]
  show cond ((rowsA x).any (cHi (k24 a0 a1 a2 a3 a4 a5 a6))) _ _ = _
  cases ha : (rowsA x).any (cHi (k24 a0 a1 a2 a3 a4 a5 a6)) with
  | true =>
    rw [ha] at h
    rw [cond_true]
    refine (need_pos h).trans ?_
    rw [show idxF (cHi (.func 24 [.rptr (p7 a0 a1 a2 a3 a4 a5 a6) 0])) (rowsA x) 0 = idxF (cHi (k24 a0 a1 a2 a3 a4 a5 a6)) (rowsA x) 0 from rfl, decide_eq_true (idxF_any ha)]
  | false =>
    rw [ha] at h
    rw [cond_false]
    exact need_pos h
/-! ### view.all with a closure that changes nothing -/
def XP (w : World) : Hid where
  B := w.heap.size
  H := fun _ G w' => (∀ k, ¬ G k) ∧ (∀ k, k < w.heap.size → w'.heap[k]? = w.heap[k]?) ∧ w.heap.size ≤ w'.heap.size
  lt i G w h k hk := absurd hk (h.1 k)
  stab i G w1 w2 h hb hs := ⟨h.1, fun k hk => (hb k (.inl hk)).trans (h.2.1 k hk), Nat.le_trans h.2.2 hs⟩
theorem pv_rd (w : World) (S : Nat → Nat → Prop) (e : List DV) : RdD w S (pv e) (payV e) := by
  simp only [RdD, pv, RdL]
  exact ⟨[.int .i64 _, .int .i64 _, .int .i64 _, .int .i64 _, .int .i64 _, .int .i64 _, .int .i64 _], rfl, _, _, rfl, rfl, _, _, rfl, rfl, _, _, rfl, rfl, _, _, rfl, rfl, _, _, rfl, rfl, _, _, rfl, rfl, _, _, rfl, rfl, rfl⟩
theorem resV_mono (O : List (List DV)) : resMono (resV O) := by
  unfold resV
  cases O.isEmpty
  · exact resMono_own _ _ _
  · exact resMono_nil
theorem Post.whole {w : World} {G0 : Nat → Prop} (hG : ∀ k, ¬ G0 k) {S0 S' : Nat → Nat → Prop} {r : DV} (hm : resMono r) {v : Value} {w' : World} (hp : Post (hidOut w G0) S0 r v w' S') : Post (Base.all w) S0 r v w' S' :=
  ⟨hp.below.mono fun k hk => ⟨hk, hG k⟩, hp.up, fun b p h => (hp.new b p h).imp id fun h hb => h ⟨hb, hG b⟩, hp.live, hm _ _ _ _ _ (fun k hk => ⟨hk, hG k⟩) hp.res⟩
theorem allPure {g : FuncId} {caps : List DV} {φ : List DV → Bool} {l : List (List DV)} (hφ : ∀ e, EntX Try.prog g (pv e :: caps) (.bool (φ e))) (hz : ∀ e ∈ l, okRow z7 e = true) (hl : l.length ≤ 1000) :
    EntX Try.prog 22 [.sla false 7 l, .func g caps] (resV (outN l.length (fun i => φ (l[i]?.getD [])) (rowP l))) := by
  intro w vs S0 o ha hS
  obtain ⟨hd, rfl⟩ := (args_noMv (ds := [.sla false 7 l, .func g caps]) rfl).1 ha
  simp only [RdL] at hd
  obtain ⟨vl, _, rfl, hvl, vg, _, rfl, hg, rfl⟩ := hd
  simp only [RdD] at hg
  obtain ⟨cs, rfl, hcs⟩ := hg
  have hst : Steps22 (XP w) g cs.toArray l (fun i => φ (l[i]?.getD [])) := fun i hi w1 G hH => by
    obtain ⟨h1, h2, h3⟩ := hH
    have hk : Kept w w1 S0 S0 := ⟨fun _ _ h => h, fun b p hbp u hu => by
      rw [World.cell?] at hu ⊢
      rw [h2 b (hS b p hbp)]
      exact hu⟩
    have hr : RdL w1 S0 (pv l[i] :: caps) (payV l[i] :: cs) := by
      simp only [RdL]
      exact ⟨_, _, rfl, pv_rd _ _ _, RdL.kept hk _ _ hcs⟩
    have := (hφ l[i]) w1 (payV l[i] :: cs) S0 _ hr.args fun b p h => Nat.lt_of_lt_of_le (hS b p h) h3
    rw [show (#[payV l[i]] ++ cs.toArray : Array Value) = (payV l[i] :: cs).toArray from by simp]
    refine this.mono fun v w' he => ?_
    obtain ⟨S', hp⟩ := he
    refine ⟨?_, fun _ => False, ⟨fun k h => h, fun k hk => (hp.below.block k (Nat.lt_of_lt_of_le hk h3)).trans (h2 k hk), Nat.le_trans h3 hp.below.size⟩, hp.below.mono fun k hk => hk.1, fun k h => h.elim⟩
    have := hp.res
    simp only [Res, RdD] at this
    rw [this]
    show Value.bool (φ l[i]) = Value.bool (φ (l[i]?.getD []))
    rw [List.getElem?_eq_getElem hi]
    rfl
  obtain ⟨fn, hfn, hname, hbody⟩ := func22'
  refine .inl ⟨⟨fn, hfn, hname, hbody⟩, (all22 (X := XP w) (G0 := fun _ => False) hst (fun b p h => ⟨hS b p h, fun h => h⟩) hz hl ⟨fun k h => h, fun k _ => rfl, Nat.le_refl _⟩ (Nat.le_refl _) hvl).mono fun e w' he => ?_⟩
  obtain ⟨v, S', rfl, hp⟩ := he
  exact ⟨v, rfl, S', Post.whole (fun k h => h) (resV_mono _) hp⟩
theorem outN_filter {l : List (List DV)} (hz : ∀ e ∈ l, okRow z7 e = true) (φ : List DV → Bool) : outN l.length (fun i => φ (l[i]?.getD [])) (rowP l) = l.filter φ := by
  have h : ∀ n, n ≤ l.length → outN n (fun i => φ (l[i]?.getD [])) (rowP l) = (l.take n).filter φ := by
    intro n
    induction n with
    | zero => intro _; rfl
    | succ n ih =>
      intro hn
      have hlt : n < l.length := by omega
      rw [outN_succ, ih (by omega), List.take_add_one, List.filter_append, List.getElem?_eq_getElem hlt, rowP_at hlt]
      have hp : pay7 l[n] = l[n] := by
        obtain ⟨a0, a1, a2, a3, a4, a5, a6, he⟩ := okRow_p (hz _ (List.getElem_mem hlt))
        rw [he]
        rfl
      rw [hp]
      simp only [Option.getD_some, Option.toList_some]
      cases hf : φ l[n] <;> simp [hf]
  rw [h _ (Nat.le_refl _), List.take_length]
theorem EntX.sla7 {f : FuncId} {ds : List DV} {O : List (List DV)} (h : EntX Try.prog f ds (resV O)) : EntX Try.prog f ds (.sla false 7 O) := by
  unfold resV at h
  cases O with
  | nil => exact EntX.res h (DLe.nil _ _) rfl
  | cons a t => exact EntX.res h (DLe.sl _ _ _) rfl
theorem all_ok : allS.ok Try.prog 22 := fun ds r hD hv => by
  obtain ⟨x, g, t, rfl, hg, hx, hl, hz⟩ := hD
  cases hv
  refine EntX.gen1 hx ?_
  have h := allPure (g := g) (caps := [.rptr [.int .i64 t] 0]) (φ := clB g t) (l := rowsA x) (fun e => by
    rcases hg with rfl | rfl
    · exact cl29 e t
    · exact cl31 e t) hz hl
  rw [outN_filter hz] at h
  exact EntX.sla7 h
theorem spA_ok : ∀ f s, spA f = some s → s.ok Try.prog f := spAdd_ok all_ok noSp_ok
def fltS (g : FuncId) : FSpec where
  D ds := ∃ x t, ds = [x, .int .i64 t] ∧ Sl 7 x ∧ (rowsA x).length ≤ 1000 ∧ ∀ e ∈ rowsA x, okRow z7 e = true
  val ds := match ds with | [x, .int _ t] => some (.sla false 7 ((rowsA x).filter (clB g t))) | _ => none
theorem rdy17 : (fltS 29).ok Try.prog 17 := fun ds r hD hv => by
  obtain ⟨x, t, rfl, hx, hl, hz⟩ := hD
  cases hv
  refine EntX.gen1 hx ?_
  exact spec_run (lsp := lsp0) tab_ok spA_ok 20 (0 + 12) ((t17 0 (rowsA x) t).trans (need_pos ⟨_, _, _, rfl, .inl rfl, Sl.sla _ _ _, hl, hz⟩))
theorem of18 : (fltS 31).ok Try.prog 18 := fun ds r hD hv => by
  obtain ⟨x, t, rfl, hx, hl, hz⟩ := hD
  cases hv
  refine EntX.gen1 hx ?_
  exact spec_run (lsp := lsp0) tab_ok spA_ok 20 (0 + 12) ((t18 0 (rowsA x) t).trans (need_pos ⟨_, _, _, rfl, .inr rfl, Sl.sla _ _ _, hl, hz⟩))
end Go.Proofs.Ytjejjokdbbedlaa
