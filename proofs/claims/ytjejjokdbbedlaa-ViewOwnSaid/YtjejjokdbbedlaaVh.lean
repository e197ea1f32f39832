/- May's closure: its pieces. No condition. -/
import Derived.Test.YtjejjokdbbedlaaVg
import Derived.MapKept
namespace Go.Proofs.Ytjejjokdbbedlaa
open Go Go.Proofs Go.RowKit Vm
set_option linter.unusedVariables false
set_option linter.unusedSimpArgs false
noncomputable def spC : FuncId → Option FSpec := spAdd 25 conS noSp
noncomputable abbrev callC : FuncId → List DV → Option DV := scall tab spC lsp0 20 (0 + 4)
noncomputable def B23 : Code := Try.f23.body.getD .skip
def A23 : AC := c23.body.erase
def q0 : Hint := ⟨0, [2, 3], [3], [], []⟩
def q1 : Hint := ⟨0, [2, 3, 5], [3], [], []⟩
def q3 : Hint := ⟨0, [2, 3, 5, 6], [3], [], []⟩
def q4 : Hint := ⟨0, [4], [], [], []⟩
abbrev rb (r : List (List DV)) : AV := .d (.rptr [.sla false 7 r] 0)
def Q0 (e : List DV) (r : List (List DV)) : St := St.of [(0, .d (.agg e)), (2, rb r)] []
def Q1 (e : List DV) (r : List (List DV)) : St := St.of [(2, rb r), (3, .ptr 3 7 0 0)] [(3, some (.dat 27 7 [e]))]
def Q2 (e : List DV) (r : List (List DV)) (b : Bool) : St := St.of [(2, rb r), (3, .ptr 3 7 0 0), (5, .d (.bool b))] [(3, some (.dat 27 7 [e]))]
def Q3 (e : List DV) (r : List (List DV)) (b : Bool) : St := St.of [(2, rb r), (3, .ptr 3 7 0 0), (5, .d (.bool b)), (6, .func 24 [.ptr 3 7 0 0])] [(3, some (.dat 27 7 [e]))]
def Q4 (b : Bool) : St := St.of [(4, .d (.bool b))] []
theorem body23 : Try.f23.body = some B23 := by kernel_rfl
theorem func23 : Try.prog.funcs[23]? = some Try.f23 := by kernel_rfl
theorem name23 : (Try.f23.name == "runtime.NumGoroutine") = false := by kernel_rfl
theorem none23 : Try.f23.body.isNone = false := by kernel_rfl
theorem ntmps23 : Try.f23.ntmps = 28 := by kernel_rfl
theorem res23 : mapO (cRes Try.prog) Try.f23.results.toList = some [.t 4] := by kernel_rfl
theorem shape23 : B23 = .seq (kA B23) (.seq (kA (kB B23)) (.seq (kA (kB (kB B23))) (.seq (kA (kB (kB (kB B23)))) (.seq (kA (kB (kB (kB (kB B23))))) .ret)))) := by kernel_rfl
noncomputable def idG (c : Code) : Nat := match c with | .region id _ _ => id | _ => 0
noncomputable def opsM : Array Oper := kOps (kA (kB B23))
noncomputable def opsU : Array Oper := kOps (kA (kB (kB B23)))
theorem shapeM : kA (kB B23) = .region (idG (kA (kB B23))) opsM false := by kernel_rfl
theorem shapeU : kA (kB (kB B23)) = .region (idG (kA (kB (kB B23)))) opsU false := by kernel_rfl
theorem sizeM : opsM.size = 5 := by kernel_rfl
theorem sizeU : opsU.size = 4 := by kernel_rfl
noncomputable def oM (k : Nat) : Oper := match opsM[k]? with | some o => o | none => oNo
noncomputable def oU (k : Nat) : Oper := match opsU[k]? with | some o => o | none => oNo
theorem atM0 : opsM[0]? = some (oM 0) := by kernel_rfl
theorem atM1 : opsM[1]? = some (oM 1) := by kernel_rfl
theorem atM2 : opsM[2]? = some (oM 2) := by kernel_rfl
theorem atM3 : opsM[3]? = some (oM 3) := by kernel_rfl
theorem atM4 : opsM[4]? = some (oM 4) := by kernel_rfl
theorem atU0 : opsU[0]? = some (oU 0) := by kernel_rfl
theorem atU1 : opsU[1]? = some (oU 1) := by kernel_rfl
theorem atU2 : opsU[2]? = some (oU 2) := by kernel_rfl
theorem atU3 : opsU[3]? = some (oU 3) := by kernel_rfl
theorem grdM0 : (oM 0).guard = none := by kernel_rfl
theorem grdM3 : (oM 3).guard = none := by kernel_rfl
theorem grdU0 : (oU 0).guard = none := by kernel_rfl
theorem grdU3 : (oU 3).guard = none := by kernel_rfl
theorem opM0 : (oM 0).op = .load 42 (.tmp 1) := by kernel_rfl
theorem opM3 : (oM 3).op = .lookup 42 (.tmp 7) (.tmp 9) false := by kernel_rfl
theorem opU0 : (oU 0).op = .load 42 (.tmp 1) := by kernel_rfl
theorem opU3 : (oU 3).op = .mapUpdate 42 (.tmp 11) (.tmp 13) (.const (.bool true)) := by kernel_rfl
theorem dstM0 : (oM 0).dst = some 7 := by kernel_rfl
theorem dstM3 : (oM 3).dst = some 10 := by kernel_rfl
theorem dstU0 : (oU 0).dst = some 11 := by kernel_rfl
theorem dstU3 : (oU 3).dst = none := by kernel_rfl
def m8 : AIns := ⟨some 8, none, [], true, .faddr 1 (.t 3)⟩
def m9 : AIns := ⟨some 9, none, [], true, .load false 1 (.t 8) [.int .i64 0]⟩
def m5 : AIns := ⟨some 5, none, [], true, .mv (.t 10)⟩
def u12 : AIns := ⟨some 12, none, [], true, .faddr 1 (.t 3)⟩
def u13 : AIns := ⟨some 13, none, [], true, .load false 1 (.t 12) [.int .i64 0]⟩
theorem ciM1 : cIns Try.prog [] 28 opsM (oM 1) = some m8 := by kernel_rfl
theorem ciM2 : cIns Try.prog [] 28 opsM (oM 2) = some m9 := by kernel_rfl
theorem ciM4 : cIns Try.prog [] 28 opsM (oM 4) = some m5 := by kernel_rfl
theorem ciU1 : cIns Try.prog [] 28 opsU (oU 1) = some u12 := by kernel_rfl
theorem ciU2 : cIns Try.prog [] 28 opsU (oU 2) = some u13 := by kernel_rfl
theorem freeM0 : freeOf [1] (oM 0) = true := by kernel_rfl
theorem freeM1 : freeOf [7, 1] (oM 1) = true := by kernel_rfl
theorem freeM2 : freeOf [7, 1] (oM 2) = true := by kernel_rfl
theorem freeM3 : freeOf [7, 1] (oM 3) = true := by kernel_rfl
theorem freeM4 : freeOf [7, 1] (oM 4) = true := by kernel_rfl
theorem freeU0 : freeOf [1] (oU 0) = true := by kernel_rfl
theorem freeU1 : freeOf [11, 1] (oU 1) = true := by kernel_rfl
theorem freeU2 : freeOf [11, 1] (oU 2) = true := by kernel_rfl
theorem cM0 : cCode Try.prog [] 28 (kA B23) = some (xA A23).erase := by kernel_rfl
theorem cM3 : cCode Try.prog [] 28 (kA (kB (kB (kB B23)))) = some (xA (xB (xB (xB A23)))).erase := by kernel_rfl
theorem cM4 : cCode Try.prog [] 28 (kA (kB (kB (kB (kB B23))))) = some (xA (xB (xB (xB (xB A23))))).erase := by kernel_rfl
theorem okM0 : okPins [1] (kA B23) = true := by kernel_rfl
theorem okM3 : okPins [1] (kA (kB (kB (kB B23)))) = true := by kernel_rfl
theorem okM4 : okPins [1] (kA (kB (kB (kB (kB B23))))) = true := by kernel_rfl
theorem pw0 (L n : Nat) (a0 a1 a2 a3 a4 a5 a6 : Int) (r : List (List DV)) (k : Kont) : LB tab spC lsp0 L (n+4) q0 (xA A23) (Q0 (p7 a0 a1 a2 a3 a4 a5 a6) r) k = k .nrm (Q1 (p7 a0 a1 a2 a3 a4 a5 a6) r) := by kernel_rfl
theorem pw3 (L n : Nat) (a0 a1 a2 a3 a4 a5 a6 : Int) (r : List (List DV)) (b : Bool) (k : Kont) : LB tab spC lsp0 L (n+4) q3 (xA (xB (xB (xB A23)))) (Q2 (p7 a0 a1 a2 a3 a4 a5 a6) r b) k = k .nrm (Q3 (p7 a0 a1 a2 a3 a4 a5 a6) r b) := by kernel_rfl
theorem t23r (L n : Nat) (a0 a1 a2 a3 a4 a5 a6 : Int) (r : List (List DV)) (b : Bool) (k : Kont) : LB tab spC lsp0 L (n+4) q4 (xA (xB (xB (xB (xB A23))))) (Q3 (p7 a0 a1 a2 a3 a4 a5 a6) r b) k =
   (bif !b then bif a4 == (3 : Int) then k Ex.nrm (St.of [(4, AV.d (DV.bool true))] []) else k Ex.nrm (St.of [(4, AV.d (DV.bool true))] [])
 else
 bif a4 == (3 : Int) then
 need
 (conS.D
 [DV.sla false 7 r,
 DV.func (24 : FuncId)
 [DV.rptr
 [DV.int .i64 a0, DV.int .i64 a1, DV.int .i64 a2, DV.int .i64 a3, DV.int .i64 a4, DV.int .i64 a5, DV.int .i64 a6]
 (0 : Nat)]])
 (k Ex.nrm (St.of [(4, AV.d (DV.bool !r.any (cHi (DV.func (24 : FuncId) [DV.rptr (p7 a0 a1 a2 a3 a4 a5 a6) (0 : Nat)].reverse))))] []))
 else k Ex.nrm (St.of [(4, AV.d (DV.bool false))] [])) :=
  (show LB tab spC lsp0 L (n+4) q4 (xA (xB (xB (xB (xB A23))))) (Q3 (p7 a0 a1 a2 a3 a4 a5 a6) r b) k =
 (cond (!b)
 (cond (a4 == (3 : Int))
 (k .nrm (St.of [(4, (.d (.bool true)))] []))
 (k .nrm (St.of [(4, (.d (.bool true)))] [])))
 (cond (a4 == (3 : Int))
 (need (FSpec.D (conS) [(.sla false 7 r), (.func 24 [(.rptr [(.int .i64 a0), (.int .i64 a1), (.int .i64 a2), (.int .i64 a3), (.int .i64 a4), (.int .i64 a5), (.int .i64 a6)] 0)])])
 (k .nrm (St.of [(4, (.d (.bool (!(rowsA (DV.sla false 7 r)).any (cHi (DV.func (24 : FuncId) [DV.rptr (p7 a0 a1 a2 a3 a4 a5 a6) (0 : Nat)].reverse))))))] [])))
 (k .nrm (St.of [(4, (.d (.bool false)))] [])))) from by kernel_rfl).trans (by first | rfl | (simp only [decide_true, decide_false, eq_self, and_true, true_and, and_self, cond_true, cond_false, Nat.le_refl, Int.le_refl, Option.getD_some, Option.getD_none, Int.toNat_natCast, List.take_length, List.drop_zero, Nat.zero_add, List.nil_append, List.all_nil, List.append_nil, Bool.true_and, Bool.and_true, rowsA_sla, rowsA_sl, rowsA_nil, minus_zero, nat_le_cast, nat_nonneg, Option.isSome_some, Option.isSome_none, Bool.false_eq_true, false_and, and_false, if_true, if_false, implies_true, Int.toNat_zero, Bool.not_false, Bool.not_true, bne_self_eq_false]; done) | (simp only [decide_true, decide_false, eq_self, and_true, true_and, and_self, cond_true, cond_false, Nat.le_refl, Int.le_refl, Option.getD_some, Option.getD_none, Int.toNat_natCast, List.take_length, List.drop_zero, Nat.zero_add, List.nil_append, List.all_nil, List.append_nil, Bool.true_and, Bool.and_true, rowsA_sla, rowsA_sl, rowsA_nil, minus_zero, nat_le_cast, nat_nonneg, Option.isSome_some, Option.isSome_none, Bool.false_eq_true, false_and, and_false, if_true, if_false, implies_true, Int.toNat_zero, Bool.not_false, Bool.not_true, bne_self_eq_false]; rfl))
/-! ### maps of those that were there -/
def MapFit (w : World) (mb : Nat) (T : Int → Prop) : Prop := ∃ es clock, w.heap[mb]? = some (.map es clock) ∧ (∀ x ∈ es.toList, (∃ n, x.key = .int .i64 n ∧ T n) ∧ x.val = .bool true) ∧ ∀ n, T n → ∃ x ∈ es.toList, x.key = .int .i64 n
theorem und42 : Try.prog.underlying 42 = some (.map 3 4) := by kernel_rfl
theorem und3 : Try.prog.underlying 3 = some (.int .i64) := by kernel_rfl
theorem zero4 (w : World) : (zeroValue 4).run Try.prog w = .ok (.bool false) w := by kernel_rfl
theorem fit_keys {es : Array MapEntry} {T : Int → Prop} (h : ∀ x ∈ es.toList, (∃ n, x.key = .int .i64 n ∧ T n) ∧ x.val = .bool true) : ∀ x ∈ es.toList, MapKept.IsKey (.int .i64) x.key := fun x hx => by
  obtain ⟨⟨m, hm, _⟩, _⟩ := h x hx
  rw [hm]
  rfl
theorem map_look {w : World} {mb : Nat} {T : Int → Prop} {n : Int} (h : MapFit w mb T) {b : Bool} (hb : b = true ↔ T n) : (Instr.lookup 42 (.map (some mb)) (.int .i64 n) false).run Try.prog w = .ok (.bool b) w := by
  obtain ⟨es, clock, h1, h2, h3⟩ := h
  have hk : MapKept.IsKey (.int .i64) (.int .i64 n) := rfl
  rcases MapKept.findNow_spec hk es.toList 0 (fit_keys h2) with ⟨f1, f2⟩ | ⟨j, e, f1, f2, f3⟩
  · have hT : ¬ T n := fun ht => by
      obtain ⟨x, hx, hxk⟩ := h3 n ht
      exact f2 x hx hxk
    have : b = false := by
      cases b
      · rfl
      · exact absurd (hb.1 rfl) hT
    subst this
    simp [Instr.lookup, run_underlying und42, MapKept.run_getObj_map h1, MapKept.run_checkKey und3 hk, MapKept.run_findKey und3 f1, zero4, Result.andThen]
  · have hm := List.mem_of_getElem? f2
    obtain ⟨⟨m, hm1, hm2⟩, hv⟩ := h2 e hm
    rw [hm1] at f3
    simp only [Value.int.injEq, true_and] at f3
    subst f3
    have : b = true := hb.2 hm2
    subst this
    simp [Instr.lookup, run_underlying und42, MapKept.run_getObj_map h1, MapKept.run_checkKey und3 hk, MapKept.run_findKey und3 f1, hv, Result.andThen]
theorem map_upd {w : World} {mb : Nat} {T : Int → Prop} (n : Int) (h : MapFit w mb T) : ∃ o, (Instr.mapUpdate 42 (.map (some mb)) (.int .i64 n) (.bool true)).run Try.prog w = .ok () { w with heap := w.heap.setIfInBounds mb o } ∧ MapFit { w with heap := w.heap.setIfInBounds mb o } mb (fun k => T k ∨ k = n) := by
  obtain ⟨es, clock, h1, h2, h3⟩ := h
  have hk : MapKept.IsKey (.int .i64) (.int .i64 n) := rfl
  rcases MapKept.findNow_spec hk es.toList 0 (fit_keys h2) with ⟨f1, f2⟩ | ⟨j, e, f1, f2, f3⟩
  · refine ⟨_, by simp [Instr.mapUpdate, run_underlying und42, MapKept.run_getObj_map h1, MapKept.run_checkKey und3 hk, MapKept.run_findKey und3 f1, MapKept.run_setObj_map _ h1, Result.andThen]; rfl, _, _, (MapKept.heap_set h1).1, fun x hx => ?_, fun k hk' => ?_⟩
    · simp only [Array.toList_push, List.mem_append, List.mem_singleton] at hx
      rcases hx with hx | rfl
      · obtain ⟨⟨m, hm1, hm2⟩, hv⟩ := h2 x hx
        exact ⟨⟨m, hm1, .inl hm2⟩, hv⟩
      · exact ⟨⟨n, rfl, .inr rfl⟩, rfl⟩
    · simp only [Array.toList_push, List.mem_append, List.mem_singleton]
      rcases hk' with hk' | rfl
      · obtain ⟨x, hx, hxk⟩ := h3 k hk'
        exact ⟨x, .inl hx, hxk⟩
      · exact ⟨_, .inr rfl, rfl⟩
  · have hj : es[j]? = some e := by simpa using f2
    have hm := List.mem_of_getElem? f2
    obtain ⟨⟨m, hm1, hm2⟩, hv⟩ := h2 e hm
    have hmn : m = n := by
      rw [hm1] at f3
      simpa using f3
    subst hmn
    refine ⟨_, by simp [Instr.mapUpdate, run_underlying und42, MapKept.run_getObj_map h1, MapKept.run_checkKey und3 hk, MapKept.run_findKey und3 f1, hj, f3, MapKept.run_keyThatStays hk, MapKept.run_setObj_map _ h1, Result.andThen]; rfl, _, _, (MapKept.heap_set h1).1, fun x hx => ?_, fun k hk' => ?_⟩
    · rw [Array.mem_toList_iff, Array.mem_iff_getElem?] at hx
      obtain ⟨i, hi⟩ := hx
      rw [Array.getElem?_modify] at hi
      split at hi
      · rename_i hij
        subst hij
        rw [hj] at hi
        simp only [Option.map_some, Option.some.injEq] at hi
        subst hi
        exact ⟨⟨m, rfl, .inl hm2⟩, rfl⟩
      · obtain ⟨⟨m', hm1', hm2'⟩, hv'⟩ := h2 x (by rw [Array.mem_toList_iff, Array.mem_iff_getElem?]; exact ⟨i, hi⟩)
        exact ⟨⟨m', hm1', .inl hm2'⟩, hv'⟩
    · have hk'' : T k := by
        rcases hk' with h | rfl
        · exact h
        · exact hm2
      obtain ⟨x, hx, hxk⟩ := h3 k hk''
      rw [Array.mem_toList_iff, Array.mem_iff_getElem?] at hx
      obtain ⟨i, hi⟩ := hx
      by_cases hij : j = i
      · subst hij
        rw [hj] at hi
        cases hi
        refine ⟨_, by rw [Array.mem_toList_iff, Array.mem_iff_getElem?]; exact ⟨j, by rw [Array.getElem?_modify, if_pos rfl, hj]; rfl⟩, ?_⟩
        show Value.int .i64 m = _
        rw [← hxk, hm1]
      · exact ⟨x, by rw [Array.mem_toList_iff, Array.mem_iff_getElem?]; exact ⟨i, by rw [Array.getElem?_modify, if_neg hij]; exact hi⟩, hxk⟩
end Go.Proofs.Ytjejjokdbbedlaa
