/- May: what it gives. No condition. -/
import Derived.Test.YtjejjokdbbedlaaVi
import Derived.Deep.WholeRow
namespace Go.Proofs.Ytjejjokdbbedlaa
open Go Go.Proofs Go.RowKit Vm
set_option linter.unusedVariables false
set_option linter.unusedSimpArgs false
noncomputable def spD : FuncId → Option FSpec := spAdd 17 (fltS 29) noSp
theorem spD_ok : ∀ f s, spD f = some s → s.ok Try.prog f := spAdd_ok rdy17 noSp_ok
noncomputable abbrev callD : FuncId → List DV → Option DV := scall tab spD lsp0 20 (0 + 4)
theorem callD_ok : CallOk Try.prog callD := scall_ok tab_ok spD_ok 20 (0 + 4)
noncomputable def B8 : Code := Try.f8.body.getD .skip
def A8 : AC := c8.body.erase
def e0 : Hint := ⟨0, [1, 2], [2], [], []⟩
def e1 : Hint := ⟨0, [2], [2], [], []⟩
def D0 (l : List (List DV)) (t : Int) : St := St.of [(0, .d (.sla false 7 l)), (1, .d (.int .i64 t))] []
def D1 (l : List (List DV)) (t : Int) : St := St.of [(1, .d (.int .i64 t)), (2, .ptr 2 1 0 0)] [(2, some (.dat 22 1 [[.sla false 7 l]]))]
def D2 (r : List (List DV)) : St := St.of [(2, .ptr 2 1 0 0)] [(2, some (.dat 22 1 [[.sla false 7 r]]))]
theorem body8 : Try.f8.body = some B8 := by kernel_rfl
theorem func8 : Try.prog.funcs[8]? = some Try.f8 := by kernel_rfl
theorem name8 : (Try.f8.name == "runtime.NumGoroutine") = false := by kernel_rfl
theorem none8 : Try.f8.body.isNone = false := by kernel_rfl
theorem ntmps8 : Try.f8.ntmps = 13 := by kernel_rfl
theorem res8 : mapO (cRes Try.prog) Try.f8.results.toList = some [.t 4] := by kernel_rfl
theorem shape8 : B8 = .seq (kA B8) (.seq (kA (kB B8)) (.seq (kA (kB (kB B8))) (.seq (kA (kB (kB (kB B8)))) .ret))) := by kernel_rfl
noncomputable def opsN : Array Oper := kOps (kA (kB (kB B8)))
noncomputable def opsP : Array Oper := kOps (kA (kB (kB (kB B8))))
theorem shapeN : kA (kB (kB B8)) = .region (idG (kA (kB (kB B8)))) opsN false := by kernel_rfl
theorem shapeP : kA (kB (kB (kB B8))) = .region (idG (kA (kB (kB (kB B8))))) opsP false := by kernel_rfl
theorem sizeN : opsN.size = 3 := by kernel_rfl
theorem sizeP : opsP.size = 4 := by kernel_rfl
noncomputable def oN (k : Nat) : Oper := match opsN[k]? with | some o => o | none => oNo
noncomputable def oP (k : Nat) : Oper := match opsP[k]? with | some o => o | none => oNo
theorem atN0 : opsN[0]? = some (oN 0) := by kernel_rfl
theorem atN1 : opsN[1]? = some (oN 1) := by kernel_rfl
theorem atN2 : opsN[2]? = some (oN 2) := by kernel_rfl
theorem atP0 : opsP[0]? = some (oP 0) := by kernel_rfl
theorem atP1 : opsP[1]? = some (oP 1) := by kernel_rfl
theorem atP2 : opsP[2]? = some (oP 2) := by kernel_rfl
theorem atP3 : opsP[3]? = some (oP 3) := by kernel_rfl
theorem grdN0 : (oN 0).guard = none := by kernel_rfl
theorem grdN1 : (oN 1).guard = none := by kernel_rfl
theorem grdN2 : (oN 2).guard = none := by kernel_rfl
theorem grdP1 : (oP 1).guard = none := by kernel_rfl
theorem grdP2 : (oP 2).guard = none := by kernel_rfl
theorem opN0 : (oN 0).op = .makeMap 42 none := by kernel_rfl
theorem opN1 : (oN 1).op = .alloc 42 := by kernel_rfl
theorem opN2 : (oN 2).op = .store 42 (.tmp 5) (.tmp 9) := by kernel_rfl
theorem opP1 : (oP 1).op = .makeFunc (.func 23) #[] #[.tmp 5, .tmp 2] := by kernel_rfl
theorem dstN0 : (oN 0).dst = some 9 := by kernel_rfl
theorem dstN1 : (oN 1).dst = some 5 := by kernel_rfl
theorem dstN2 : (oN 2).dst = none := by kernel_rfl
theorem dstP1 : (oP 1).dst = some 11 := by kernel_rfl
theorem dstP2 : (oP 2).dst = some 12 := by kernel_rfl
def n10 : AIns := ⟨some 10, none, [], true, .load false 1 (.t 2) [.nilsl]⟩
def n4 : AIns := ⟨some 4, none, [], true, .mv (.t 12)⟩
theorem ciP0 : cIns Try.prog [] 13 opsP (oP 0) = some n10 := by kernel_rfl
theorem ciP3 : cIns Try.prog [] 13 opsP (oP 3) = some n4 := by kernel_rfl
theorem freeP0 : freeOf [2, 5] (oP 0) = true := by kernel_rfl
theorem freeP1 : freeOf [2, 5] (oP 1) = true := by kernel_rfl
noncomputable def callP : Call := match (oP 2).op with | .call c => c | _ => ⟨.value (.tmp 0), #[], #[]⟩
theorem opP2 : (oP 2).op = .call callP := by kernel_rfl
theorem calleeP : callP.callee = .value (.func 22) := by kernel_rfl
theorem argsP : callP.args = #[.tmp 10, .tmp 11] := by kernel_rfl
theorem cD0 : cCode Try.prog [] 13 (kA B8) = some (xA A8).erase := by kernel_rfl
theorem cD1 : cCode Try.prog [] 13 (kA (kB B8)) = some (xA (xB A8)).erase := by kernel_rfl
theorem okD0 : okPins [] (kA B8) = true := by kernel_rfl
theorem okD1 : okPins [] (kA (kB B8)) = true := by kernel_rfl
theorem dw0 (L n : Nat) (l : List (List DV)) (t : Int) (k : Kont) : LB tab spD lsp0 L (n+4) e0 (xA A8) (D0 l t) k = k .nrm (D1 l t) := by kernel_rfl
theorem dw1 (L n : Nat) (l : List (List DV)) (t : Int) (k : Kont) : LB tab spD lsp0 L (n+4) e1 (xA (xB A8)) (D1 l t) k = need ((fltS 29).D [.sla false 7 l, .int .i64 t]) (k .nrm (D2 (l.filter (clB 29 t)))) := by kernel_rfl
theorem run_callP {a : Act} {w : World} {vl : Value} {g : FuncId} {caps : Array Value} (h8 : a.eval (.tmp 10) = vl) (h9 : a.eval (.tmp 11) = vf g caps) : (execOp a.eval (oP 2)).run Try.prog w = (callFunc 22 #[vl, vf g caps]).run Try.prog w := by
  unfold execOp
  rw [opP2]
  simp only [calleeP, argsP, resolve, Act.eval, Deferred.ofValue, Sem.run_bind, Sem.run_pure, Result.andThen_ok, invoke, Array.empty_append, Array.append_empty]
  rw [show Array.map a.eval #[Operand.tmp 10, Operand.tmp 11] = #[a.eval (.tmp 10), a.eval (.tmp 11)] from by simp, h8, h9]
def SRp (O : List (List DV)) : St := St.of [(4, .aref 12 7 0 O.length)] [(12, some (.dat 27 7 O))]
theorem retP (O : List (List DV)) : aRetK (SRp O) [.t 4] some = retQ O := by kernel_rfl
theorem retP' (O : List (List DV)) : aRet (SRp O) [.t 4] = some (.sl (.own 27) 7 O) := by
  have e : aRetK (SRp O) [.t 4] some = aRet (SRp O) [.t 4] := by rw [aRetK_eq]; simp
  rw [← e, retP]
  unfold retQ
  rw [decide_eq_true rfl, cond_true]
/-- the end of May -/
theorem mayEnd {w0 : Base} {S0 : Nat → Nat → Prop} {O : List (List DV)} {a : Act} {w : World} (hI : InvE w0 S0 13 (place 12 (resV O) (St.of [] [])) a w) {R : Ending → World → Prop} (hR : ∀ v w' S', Post w0 S0 (resV O) v w' S' → R (.returned v) w') :
    wpOps Try.prog opsP (Exit.then (Code.ret.wp Try.prog (bodyPost Try.prog Try.f8 R)) (bodyPost Try.prog Try.f8 R)) [3] a w := by
  refine wpOps_if atP3 ?_
  cases O with
  | nil =>
    refine ins_sound call0_ok ciP3 hI (st' := ((St.of [] []).put 12 (.d .nilsl)).put 4 (.d .nilsl)) rfl fun a' w' hI' => wp_ret ?_
    obtain ⟨ρ, S, hI'⟩ := hI'
    obtain ⟨v, S', h1, h2⟩ := aret_sound (fn := Try.f8) hI' res8 (r := .nilsl) rfl
    exact ⟨hI'.defers, v, h1, hR v w' S' h2⟩
  | cons b t =>
    refine ins_sound call0_ok ciP3 hI (st' := ((((St.of [] []).at_ 12 (.dat 27 7 (b :: t))).put 12 (.aref 12 7 0 (b :: t).length))).put 4 (.aref 12 7 0 (b :: t).length)) rfl fun a' w' hI' => wp_ret ?_
    have hI2 := hI'.keep ⟨0, [4], [12], [], []⟩
    have hs : (((((St.of [] []).at_ 12 (.dat 27 7 (b :: t))).put 12 (.aref 12 7 0 (b :: t).length))).put 4 (.aref 12 7 0 (b :: t).length)).keep ⟨0, [4], [12], [], []⟩ = SRp (b :: t) := rfl
    rw [hs] at hI2
    obtain ⟨ρ, S, hI2⟩ := hI2
    obtain ⟨v, S', h1, h2⟩ := aret_sound (fn := Try.f8) hI2 res8 (retP' (b :: t))
    exact ⟨hI2.defers, v, h1, hR v w' S' h2⟩
/-! ### a new map, and what holds it -/
theorem zero42 (w : World) : (zeroValue 42).run Try.prog w = .ok (.map none) w := by kernel_rfl
theorem run_new42 (w : World) : (Instr.alloc 42 true (.tuple #[])).run Try.prog w = .ok (ptrV w.heap.size) (w.alloc (.cells #[.map none] 42)) := by
  simp [Instr.alloc, zero42, newVar, newRow, Result.andThen, Value.cells]
theorem run_put42 (w : World) (mb : Nat) : (Instr.storeAt 42 (ptrV w.heap.size) (.map (some mb))).run Try.prog (w.alloc (.cells #[.map none] 42)) = .ok () (w.alloc (.cells #[.map (some mb)] 42)) := by
  have := run_storeCells_at Try.prog w.heap.size 0 42 [.map (some mb)] 0 #[.map none] (w.alloc (.cells #[.map none] 42)) (heap_last _ _) (by simp) (by simp [Value.oneCell'])
  rw [World.setRow_alloc_new] at this
  simp [Instr.storeAt, Instr.sureAddr, storeVar, run_sizeT (P := Try.prog) (t := 42) (n := 1) (by kernel_rfl), Value.cells, splice] at this ⊢
  exact this
def XB (fb mb : Nat) : Hid where
  B := 0
  H := fun i G w => (∀ k, G k ↔ k = fb ∨ k = mb) ∧ fb ≠ mb ∧ w.heap[fb]? = some (.cells #[.map (some mb)] 42 (0, 0)) ∧ w.heap[mb]? = some (.map #[] 0)
  lt i G w h k hk := by
    rcases (h.1 k).1 hk with rfl | rfl
    · exact (Array.getElem?_eq_some_iff.1 h.2.2.1).1
    · exact (Array.getElem?_eq_some_iff.1 h.2.2.2).1
  stab i G w w' h hb hs := ⟨h.1, h.2.1, (hb fb (.inr ((h.1 fb).2 (.inl rfl)))).trans h.2.2.1, (hb mb (.inr ((h.1 mb).2 (.inr rfl)))).trans h.2.2.2⟩
theorem J_put {X : Hid} {w0 : World} {G0 : Nat → Prop} {S0 : Nat → Nat → Prop} {N : Nat} {pins : List (Nat × Value)} {i : Nat} {st : St} {a : Act} {w : World} {t : Nat} (ht : t < N) (hno : ∀ v, (t, v) ∉ pins) (hJ : JInv X w0 G0 S0 N pins i st a w) (u : Value) :
    JInv X w0 G0 S0 N ((t, u) :: pins) i (st.put t .undef) (a.put (some t) u) w := by
  obtain ⟨⟨G, hl, hG, hH, ρ, S, hI⟩, hbel, hp, hbd⟩ := hJ
  refine ⟨⟨G, hl, hG, hH, ρ, S, hI.put ht (by simp only [RdA])⟩, hbel, fun n v hn => ?_, hbd⟩
  rcases List.mem_cons.1 hn with hn | hn
  · cases hn
    show (a.tmps.setIfInBounds t u)[t]? = some u
    rw [Array.getElem?_setIfInBounds_self_of_lt (by rw [hI.size]; exact ht)]
  · show (a.tmps.setIfInBounds t u)[n]? = some v
    rw [Array.getElem?_setIfInBounds_ne (fun e => hno v (by rw [e]; exact hn))]
    exact hp n v hn
theorem J_pin {X : Hid} {w0 : World} {G0 : Nat → Prop} {S0 : Nat → Nat → Prop} {N : Nat} {pins : List (Nat × Value)} {i : Nat} {st : St} {a : Act} {w : World} {t : Nat} (ht : t < N) (hJ : JInv X w0 G0 S0 N pins i st a w) :
    JInv X w0 G0 S0 N ((t, a.eval (.tmp t)) :: pins) i st a w := by
  obtain ⟨⟨G, hl, hG, hH, ρ, S, hI⟩, hbel, hp, hbd⟩ := hJ
  refine ⟨⟨G, hl, hG, hH, ρ, S, hI⟩, hbel, fun n v hn => ?_, hbd⟩
  rcases List.mem_cons.1 hn with hn | hn
  · cases hn
    show a.tmps[t]? = some (a.tmps.getD t undef)
    have hs : t < a.tmps.size := by rw [hI.size]; exact ht
    rw [Array.getD_eq_getD_getElem?, Array.getElem?_eq_getElem hs]
    rfl
  · exact hp n v hn
theorem rdL_one {x y : AV} {w : World} {S : Nat → Nat → Prop} {ρ : Nat → Nat × Nat} : True := trivial
theorem may8 {l : List (List DV)} (hz : ∀ e ∈ l, okRow z7 e = true) (hl : l.length ≤ 1000) (t : Int) : EntX Try.prog 8 [.sla false 7 l, .int .i64 t] (resV (outN (l.filter (clB 29 t)).length (decM (l.filter (clB 29 t))) (rowP (l.filter (clB 29 t))))) := by
  intro w vs S0 o ha hS
  refine .inl ⟨⟨Try.f8, func8, name8, none8⟩, calls_of_wp func8 body8 ?_⟩
  obtain ⟨hd, rfl⟩ := (args_noMv (ds := [.sla false 7 l, .int .i64 t]) rfl).1 ha
  simp only [RdL] at hd
  obtain ⟨vl, _, rfl, hvl, vt, _, rfl, hvt, rfl⟩ := hd
  rw [ntmps8, shape8]
  have hJ : JInv (XP w) w (fun _ => False) S0 13 [] 0 (D0 l t) { tmps := [vl, vt].toArray ++ Array.replicate (13 - [vl, vt].toArray.size) undef, defers := [] } w := J_init (X := XP w) (G0 := fun _ => False) (w0 := w) (S0 := S0) (N := 13) (pins := []) (ds := [.sla false 7 l, .int .i64 t]) (vs := [vl, vt]) (show (2 : Nat) ≤ 13 by omega) (fun j x hx => by
    match j with
    | 0 =>
      simp only [List.getElem?_cons_zero, Option.some.injEq] at hx
      subst hx
      exact ⟨vl, rfl, hvl⟩
    | 1 =>
      simp only [List.getElem?_cons_succ, List.getElem?_cons_zero, Option.some.injEq] at hx
      subst hx
      exact ⟨vt, rfl, hvt⟩
    | j + 2 => simp at hx) hS ⟨fun k h => h, fun k _ => rfl, Nat.le_refl _⟩ (Nat.le_refl _) (fun t v h => by cases h)
  have hzR : ∀ e ∈ l.filter (clB 29 t), okRow z7 e = true := fun e he => hz e (List.mem_filter.1 he).1
  have hlR : (l.filter (clB 29 t)).length ≤ 1000 := Nat.le_trans (List.length_filter_le _ _) hl
  have hS0 : ∀ b o, S0 b o → b < w.heap.size ∧ ¬ (fun _ : Nat => False) b := fun b o h => ⟨hS b o h, fun h => h⟩
  refine wp_seq (J_piece (N := 13) (R := []) (pins := []) callD_ok (h := e0) rfl okD0 cD0 (fun k => dw0 20 0 l t k) hJ fun a1 w1 hJ1 => ?_)
  refine wp_seq (J_piece (N := 13) (R := []) (pins := []) callD_ok (h := e1) rfl okD1 cD1 (e := .nrm) (st' := D2 (l.filter (clB 29 t))) (fun k => (dw1 20 0 l t k).trans (need_pos ⟨_, _, rfl, Sl.sla _ _ _, hl, hz⟩)) hJ1 fun a2 w2 hJ2 => ?_)
  generalize l.filter (clB 29 t) = r at *
  rw [shapeN]
  refine wp_seq (wp_region ?_)
  rw [sizeN, show List.range 3 = [0, 1, 2] from rfl]
  refine wpOps_one atN0 grdN0 (wp_value (u := .map (some w2.heap.size)) (w1 := w2.alloc (.map #[] 0)) ?_ ?_)
  · unfold execOp
    rw [opN0]
    simp only [Option.map_none, Sem.run_bind, run_makeMap, Result.andThen_ok, Sem.run_pure]
  rw [dstN0]
  have hs1 : (w2.alloc (.map #[] 0)).heap.size = w2.heap.size + 1 := Array.size_push _
  refine wpOps_one atN1 grdN1 (wp_value (u := ptrV (w2.heap.size + 1)) (w1 := (w2.alloc (.map #[] 0)).alloc (.cells #[.map none] 42)) ?_ ?_)
  · unfold execOp
    rw [opN1]
    simp only [Sem.run_bind, run_new42, Result.andThen_ok, Sem.run_pure, hs1]
  rw [dstN1]
  refine wpOps_one atN2 grdN2 (wp_skip' (w1 := (w2.alloc (.map #[] 0)).alloc (.cells #[.map (some w2.heap.size)] 42)) ?_ ?_)
  · have hsz : a2.tmps.size = 13 := by
      obtain ⟨⟨_, _, _, _, _, _, hI⟩, _, _, _⟩ := hJ2
      exact hI.size
    have h5 : ((a2.put (some 9) (.map (some w2.heap.size))).put (some 5) (ptrV (w2.heap.size + 1))).eval (.tmp 5) = ptrV (w2.heap.size + 1) := by
      show ((a2.tmps.setIfInBounds 9 _).setIfInBounds 5 _).getD 5 undef = _
      rw [Array.getD_eq_getD_getElem?, Array.getElem?_setIfInBounds_self_of_lt (by rw [Array.size_setIfInBounds, hsz]; omega)]
      rfl
    have h9 : ((a2.put (some 9) (.map (some w2.heap.size))).put (some 5) (ptrV (w2.heap.size + 1))).eval (.tmp 9) = .map (some w2.heap.size) := by
      show ((a2.tmps.setIfInBounds 9 _).setIfInBounds 5 _).getD 9 undef = _
      rw [Array.getD_eq_getD_getElem?, Array.getElem?_setIfInBounds_ne (by omega), Array.getElem?_setIfInBounds_self_of_lt (by rw [hsz]; omega)]
      rfl
    unfold execOp
    rw [opN2]
    have hp := run_put42 (w2.alloc (.map #[] 0)) w2.heap.size
    rw [hs1] at hp
    simp only [h5, h9, Sem.run_bind, hp, Result.andThen_ok, Sem.run_pure]
  rw [dstN2]
  have hJ3 := J_change (X' := XB (w2.heap.size + 1) w2.heap.size) (i' := 0) hS0 (Nat.zero_le _) hJ2 (w' := (w2.alloc (.map #[] 0)).alloc (.cells #[.map (some w2.heap.size)] 42)) fun G hx _ => by
    refine ⟨fun k => k = w2.heap.size + 1 ∨ k = w2.heap.size, ⟨fun k => Iff.rfl, by omega, ?_, ?_⟩, ⟨rfl, rfl, rfl, ?_, fun k hk => ?_⟩, fun k hk => .inr (by omega)⟩
    · have := heap_last (w2.alloc (.map #[] 0)) (.cells #[.map (some w2.heap.size)] 42)
      rwa [hs1] at this
    · rw [Below.heap_alloc _ _ _ (by rw [hs1]; omega)]
      exact heap_last w2 _
    · show w2.heap.size ≤ ((w2.heap.push _).push _).size
      rw [Array.size_push, Array.size_push]
      omega
    · rw [Below.heap_alloc _ _ _ (by rw [hs1]; omega), Below.heap_alloc _ _ _ hk.1]
  have hJ4 := (J_put (t := 9) (by omega) (by simp) hJ3 (.map (some w2.heap.size))).fewer (pins' := []) (fun t v h => by cases h)
  have hJ5 := J_put (t := 5) (by omega) (by simp) hJ4 (ptrV (w2.heap.size + 1))
  have hJ6 := J_pin (t := 2) (by omega) (hJ5.keep e1)
  rw [show (((D2 r).put 9 .undef).put 5 .undef).keep e1 = D2 r from rfl] at hJ6
  show (Code.seq (kA (kB (kB (kB B8)))) _).wp _ _ _ _
  rw [shapeP]
  refine wp_seq (wp_region ?_)
  rw [sizeP, show List.range 4 = [0, 1, 2, 3] from rfl]
  generalize hu2 : ((a2.put (some 9) (.map (some w2.heap.size))).put (some 5) (ptrV (w2.heap.size + 1))).eval (.tmp 2) = u2 at hJ6
  generalize w2.heap.size + 1 = fb at *
  generalize w2.heap.size = mb at *
  refine wpOps_if atP0 (J_ins (pins := [(2, u2), (5, ptrV fb)]) callD_ok ciP0 freeP0 hJ6 (st' := (D2 r).put 10 (.d (.sla false 7 r))) rfl fun b1 v1 hK1 => ?_)
  refine wpOps_one atP1 grdP1 (J_value (pins := [(2, u2), (5, ptrV fb)]) dstP1 (by omega) freeP1 hK1 (u := vf 23 #[ptrV fb, u2]) ?_ fun b2 v2 hK2 => ?_)
  · unfold execOp
    rw [opP1]
    simp only [Instr.makeFunc, Sem.run_bind, Sem.run_pure, Result.andThen_ok]
    rw [show Array.map b1.eval #[Operand.tmp 5, Operand.tmp 2] = #[b1.eval (.tmp 5), b1.eval (.tmp 2)] from by simp, eval_pin hK1.pin (t := 5) (v := ptrV fb) (by simp), eval_pin hK1.pin (t := 2) (v := u2) (by simp), show Array.map b1.eval #[] = #[] from by simp]
  refine wpOps_one atP2 grdP2 ?_
  have p11 := eval_pin hK2.pin (t := 11) (v := vf 23 #[ptrV fb, u2]) (by simp)
  have p2 := eval_pin hK2.pin (t := 2) (v := u2) (by simp)
  obtain ⟨G, ρ, S, hx, hI, hseg, hSG, hGB⟩ := J_out (fun k h => h) hK2
  obtain ⟨y1, y2, y3, y4⟩ := hx
  have hSG' : ∀ b o, Sall (((D2 r).put 10 (.d (.sla false 7 r))).put 11 .undef) ρ S b o → ¬ G b := by
    rintro b o (h | ⟨s, ob, hs, rfl⟩)
    · rcases hSG b o h with h | h
      · intro hg
        have := hGB b hg
        have := hS b o h
        omega
      · exact h
    · exact hseg s ob hs
  have e10 : RdA v2 S ρ (.d (.sla false 7 r)) (b2.eval (.tmp 10)) := hI.env 10
  have e2 : RdA v2 S ρ (.ptr 2 1 0 0) u2 := p2 ▸ hI.env 2
  have r10 : RdD v2 (Sall (((D2 r).put 10 (.d (.sla false 7 r))).put 11 .undef) ρ S) (.sla false 7 r) (b2.eval (.tmp 10)) := snap_all hI rfl e10
  have r2 : RdD v2 (Sall (((D2 r).put 10 (.d (.sla false 7 r))).put 11 .undef) ρ S) (.rptr [.sla false 7 r] 0) u2 := snap_all hI rfl e2
  have hGm : ∀ b, b = mb → G b := fun b h => (y1 b).2 (.inr h)
  refine headsCall (X := XM mb v2 r) (G0 := fun k => k = mb) (g := 23) (caps := #[ptrV fb, u2]) (dec := decM r) (steps23 hlR hzR y3 y2 (fun b o h => ⟨Sall_lt hI b o h, fun e => hSG' b o h (hGm b e)⟩) r2) hzR hlR hI.freeze dstP2 (by omega) r10 (run_callP rfl p11) ⟨fun k => Iff.rfl, (Array.getElem?_eq_some_iff.1 y4).1, fun k _ _ => rfl, Nat.le_refl _, ?_⟩ (Nat.le_refl _) (fun k hk hm => ?_) (fun b o h e => hSG' b o h (hGm b e)) fun a' w' hI' => mayEnd hI' fun v w' S' hp => ⟨v, rfl, S', hp⟩
  · refine ⟨#[], 0, y4, fun x hx => by simp at hx, fun n hn => ?_⟩
    obtain ⟨e, he, _⟩ := hn
    simp at he
  · have := hGB k (hGm k hm)
    have h2 : k < w.heap.size := hk
    omega
end Go.Proofs.Ytjejjokdbbedlaa
