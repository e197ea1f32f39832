/- Heads: what it gives, where some are asked. No condition. -/
import Derived.Test.YtjejjokdbbedlaaVe
namespace Go.Proofs.Ytjejjokdbbedlaa
open Go Go.Proofs Go.RowKit Vm
set_option linter.unusedVariables false
set_option linter.unusedSimpArgs false
theorem I_piece {P : Program} {N : Nat} {R : List Nat} {tab : FuncId → Option AFn} {sp : FuncId → Option FSpec} {lsp : Nat → Option LSpec} {L n : Nat} {w0 : Base} {S0 : Nat → Nat → Prop} {st st' : St} {a : Act} {w : World} (hcall : CallOk P (scall tab sp lsp L n)) {h : Hint} (hfr : h.fr = []) {c : Code} {ac : AC} {e : Ex} (hc : cCode P R N c = some ac.erase) (hx : ∀ k, LB tab sp lsp L n h ac st k = k e st')
    (hI : InvE w0 S0 N st a w) {Q : Exit → Act → World → Prop} (hQ : ∀ a' w', InvE w0 S0 N st' a' w' → Q e.to a' w') : c.wp P Q a w := by
  have hb := body_of hx
  unfold bodyOf at hb
  split at hb
  · rename_i st2 he
    simp only [hfr, St.away, Option.some.injEq, Prod.mk.injEq] at hb
    obtain ⟨rfl, rfl⟩ := hb
    exact code_sound hcall (srun_ok lsp) c ac hc st st2 _ he a w hI Q fun a' w' hI' => hQ a' w' (hI'.keep h)
  · exact code_sound hcall (srun_ok lsp) c ac hc st st' _ hb a w hI Q hQ
theorem inv_none {w0 : Base} {S0 : Nat → Nat → Prop} {N : Nat} {ρ : Nat → Nat × Nat} {S : Nat → Nat → Prop} {st : St} {a : Act} {w : World} (hI : Inv w0 S0 N ρ S st a w) {G0 : Nat → Prop} (hG : ∀ k, w0.old k → ¬ G0 k) {w' : World} {S' : Nat → Nat → Prop}
    (hb : BelowP (fun k => k < w.heap.size ∧ ¬ G0 k) w w') (hup : ∀ b o, S b o → S' b o) (hnew : ∀ b o, S' b o → S b o ∨ ¬ (b < w.heap.size ∧ ¬ G0 b)) (hlive : ∀ b o, S' b o → b < w'.heap.size) : Inv w0 S0 N ρ S' (St.of [] []) a w' := by
  have hold : ∀ k, w0.old k → k < w.heap.size ∧ ¬ G0 k := fun k hk => ⟨Nat.lt_of_lt_of_le (w0.lt k hk) hI.below.size, hG k hk⟩
  refine ⟨hI.size, hI.defers, fun t => (show RdA w' S' ρ .undef _ by simp only [RdA]), fun m t want v hv _ => (by cases hv), fun m t want v hv _ => (by cases hv), fun s o hs => (by cases hs), fun s s' o o' hs _ _ => (by cases hs), hlive, fun b o h => hup b o (hI.up b o h), fun b o h => ?_, hI.below.trans (hb.mono hold)⟩
  rcases hnew b o h with h1 | h1
  · exact hI.new b o h1
  · exact .inr fun ho => h1 (hold b ho)
def resV (O : List (List DV)) : DV := cond O.isEmpty .nilsl (.sl (.own 27) 7 O)
/-- the call of view.all, what its closure captured given away -/
theorem headsCall {w0 : Base} {S0 : Nat → Nat → Prop} {l : List (List DV)} {X : Hid} {G0 : Nat → Prop} {g : FuncId} {caps : Array Value} {dec : Nat → Bool} (hst : Steps22 X g caps l dec) (hz : ∀ e ∈ l, okRow z7 e = true) (hl : l.length ≤ 1000)
    {N : Nat} {st : St} {a : Act} {w : World} {ρ : Nat → Nat × Nat} {S : Nat → Nat → Prop} (hI : Inv w0 S0 N ρ S st a w) {o : Oper} {t : Nat} (hdst : o.dst = some t) (ht : t < N) {vl : Value} (hvl : RdD w S (.sla false 7 l) vl) (hrun : (execOp a.eval o).run Try.prog w = (callFunc 22 #[vl, vf g caps]).run Try.prog w)
    (hH : X.H 0 G0 w) (hbd : X.B ≤ w.heap.size) (hG : ∀ k, w0.old k → ¬ G0 k) (hSG : ∀ b o, S b o → ¬ G0 b) {K : Act → World → Prop} {Q : Exit → Act → World → Prop}
    (hK : ∀ a' w', InvE w0 S0 N (place t (resV (outN l.length dec (rowP l))) (St.of [] [])) a' w' → K a' w') : o.wp Try.prog a w K Q := by
  unfold Oper.wp
  obtain ⟨fn, hfn, hname, hbody⟩ := func22'
  have henter : (callFunc 22 #[vl, vf g caps]).run Try.prog w = .ok (.enter 22 #[vl, vf g caps]) w := by
    simp only [callFunc, Sem.run_bind, run_program, Result.andThen_ok, hfn, hname, hbody, Bool.false_eq_true, if_false, Sem.run_pure]
  rw [hrun, henter, Oper.upon_enter]
  refine (all22 hst (fun b o h => ⟨hI.live b o h, hSG b o h⟩) hz hl hH hbd hvl).mono fun e w' he => ?_
  obtain ⟨v, S', rfl, hp⟩ := he
  have hI' := inv_none hI hG hp.below hp.up hp.new hp.live
  rw [hdst]
  exact hK _ _ (place_sound hI' (base := fun k => k < w.heap.size ∧ ¬ G0 k) (fun k hk => ⟨Nat.lt_of_lt_of_le (w0.lt k hk) hI.below.size, hG k hk⟩) ht hp.res fun s o hs => by cases hs)
theorem seg_at {B : Nat → Prop} {w : World} {S : Nat → Nat → Prop} {ρ ρ' : Nat → Nat × Nat} {s s' el sz : Nat} {M : List (List DV)} (h : SegOk B w S ρ s (.dat el sz M)) (hρ : ρ' s' = ρ s) : SegOk B w S ρ' s' (.dat el sz M) := by
  refine ⟨h.1, ?_⟩
  rw [hρ]
  exact h.2
theorem seg_box' {B : Nat → Prop} {w : World} {S : Nat → Nat → Prop} {ρ ρ' : Nat → Nat × Nat} {s s' t t' n : Nat} (h : SegOk B w S ρ s (.mix 32 1 [[.aref t 1 0 n]])) (hρ : ρ' s' = ρ s) (hτ : ρ' t' = ρ t) : SegOk (fun _ => False) w noS ρ' s' (.mix 32 1 [[.aref t' 1 0 n]]) := by
  have hrow : ∀ e ∈ ([[.aref t' 1 0 n]] : List (List AV)), e.length = 1 ∧ e.all AV.one = true := fun e he => by
    simp only [List.mem_singleton] at he
    subst he
    exact ⟨rfl, rfl⟩
  refine ⟨hrow, ?_⟩
  rw [hρ]
  refine ⟨fun h => h, ?_, h.2.fits, h.2.len, fun _ h => h⟩
  obtain ⟨cur, h1, h2, h3⟩ := h.2.here
  refine ⟨cur, h1, h2, fun i j hi hj => ?_⟩
  obtain ⟨u, hu, hr⟩ := h3 i j hi hj
  refine ⟨u, hu, fun e c he hc => ?_⟩
  have hi0 : i = 0 := by simp at hi; omega
  have hj0 : j = 0 := by omega
  subst hi0 hj0
  simp only [List.getElem?_cons_zero, Option.some.injEq] at he
  subst he
  simp only [List.getElem?_cons_zero, Option.some.injEq] at hc
  subst hc
  have := hr [.aref t 1 0 n] (.aref t 1 0 n) rfl rfl
  simp only [RdA] at this ⊢
  rw [hτ]
  exact this
def SR4 (O : List (List DV)) : St := St.of [(4, .aref 10 7 0 O.length)] [(10, some (.dat 27 7 O))]
theorem retX (O : List (List DV)) : aRetK (SR4 O) [.t 4] some = retQ O := by kernel_rfl
theorem retX' (O : List (List DV)) : aRet (SR4 O) [.t 4] = some (.sl (.own 27) 7 O) := by
  have e : aRetK (SR4 O) [.t 4] some = aRet (SR4 O) [.t 4] := by rw [aRetK_eq]; simp
  rw [← e, retX]
  unfold retQ
  rw [decide_eq_true rfl, cond_true]
/-- the end of Heads -/
theorem headsEnd {w0 : Base} {S0 : Nat → Nat → Prop} {O : List (List DV)} {a : Act} {w : World} (hI : InvE w0 S0 11 (place 10 (resV O) (St.of [] [])) a w) {R : Ending → World → Prop} (hR : ∀ v w' S', Post w0 S0 (resV O) v w' S' → R (.returned v) w') :
    wpOps Try.prog opsH (Exit.then (Code.ret.wp Try.prog (bodyPost Try.prog Try.f14 R)) (bodyPost Try.prog Try.f14 R)) [3] a w := by
  refine wpOps_if atH3 ?_
  cases O with
  | nil =>
    refine ins_sound call0_ok ciH3 hI (st' := ((St.of [] []).put 10 (.d .nilsl)).put 4 (.d .nilsl)) rfl fun a' w' hI' => wp_ret ?_
    obtain ⟨ρ, S, hI'⟩ := hI'
    obtain ⟨v, S', h1, h2⟩ := aret_sound (fn := Try.f14) hI' res14 (r := .nilsl) rfl
    exact ⟨hI'.defers, v, h1, hR v w' S' h2⟩
  | cons b t =>
    refine ins_sound call0_ok ciH3 hI (st' := ((((St.of [] []).at_ 10 (.dat 27 7 (b :: t))).put 10 (.aref 10 7 0 (b :: t).length))).put 4 (.aref 10 7 0 (b :: t).length)) rfl fun a' w' hI' => wp_ret ?_
    have hI2 := hI'.keep ⟨0, [4], [10], [], []⟩
    have hs : (((((St.of [] []).at_ 10 (.dat 27 7 (b :: t))).put 10 (.aref 10 7 0 (b :: t).length))).put 4 (.aref 10 7 0 (b :: t).length)).keep ⟨0, [4], [10], [], []⟩ = SR4 (b :: t) := rfl
    rw [hs] at hI2
    obtain ⟨ρ, S, hI2⟩ := hI2
    obtain ⟨v, S', h1, h2⟩ := aret_sound (fn := Try.f14) hI2 res14 (retX' (b :: t))
    exact ⟨hI2.defers, v, h1, hR v w' S' h2⟩
theorem run_callH {a : Act} {w : World} {vl : Value} {g : FuncId} {caps : Array Value} (h8 : a.eval (.tmp 8) = vl) (h9 : a.eval (.tmp 9) = vf g caps) : (execOp a.eval (oH 2)).run Try.prog w = (callFunc 22 #[vl, vf g caps]).run Try.prog w := by
  unfold execOp
  rw [opH2]
  simp only [calleeH, argsH, resolve, Act.eval, Deferred.ofValue, Sem.run_bind, Sem.run_pure, Result.andThen_ok, invoke, Array.empty_append, Array.append_empty]
  rw [show Array.map a.eval #[Operand.tmp 8, Operand.tmp 9] = #[a.eval (.tmp 8), a.eval (.tmp 9)] from by simp, h8, h9]
theorem heads14 {l M : List (List DV)} (hz : ∀ e ∈ l, okRow z7 e = true) (hl : l.length ≤ 1000) (hM : Ints M) (hlM : M.length ≤ 1000) (hne : M.isEmpty = false) : EntX Try.prog 14 [.sla false 7 l, .sla false 1 M] (resV (outN l.length (decHs M l) (rowP l))) := by
  intro w vs S0 o ha hS
  refine .inl ⟨⟨Try.f14, func14, name14, none14⟩, calls_of_wp func14 body14 ?_⟩
  have hlen : vs.length = 2 := by
    have := RdL.length _ _ ((args_noMv (ds := [.sla false 7 l, .sla false 1 M]) rfl).1 ha).1
    simpa using this
  obtain ⟨ρ0, hinit⟩ := init_inv ha hS (n := 11) (by simp)
  rw [ntmps14, shape14]
  have hst0 : (St.init [.sla false 7 l, .sla false 1 M]).keep g0 = SH0 l M := rfl
  have hI0 : InvE o S0 11 (SH0 l M) { tmps := vs.toArray ++ Array.replicate (11 - vs.toArray.size) undef, defers := [] } w := by
    have := InvE.keep ⟨_, _, hinit⟩ g0
    rwa [hst0] at this
  have hc := fun e => scall_ok (lsp := lsp0) tab_ok (spc_ok e) 20 (0 + 4)
  have hcl : (cloS false).D [.sla false 1 M] := ⟨_, rfl, Sl.sla _ _ _, hlM, fun e he => (hM e he).1, hne⟩
  refine wp_seq (I_piece (N := 11) (R := []) (hc false) (h := g0) rfl cH1 (fun k => hw0 false 20 0 l M k) hI0 fun a1 w1 hI1 => ?_)
  refine wp_seq (I_piece (N := 11) (R := []) (hc false) (h := g1) rfl cH2 (e := .nrm) (st' := SH l M) (fun k => (hw1 20 0 l M k).trans (need_pos hcl)) hI1 fun a2 w2 hI2 => ?_)
  rw [shapeH]
  refine wp_seq (wp_region ?_)
  rw [sizeH, show List.range 4 = [0, 1, 2, 3] from rfl]
  refine wpOps_if atH0 (ins_sound call0_ok ciH0 hI2 (st' := (SH l M).put 8 (.d (.sla false 7 l))) rfl fun a3 w3 hI3 => ?_)
  refine wpOps_if atH1 (ins_sound call0_ok ciH1 hI3 (st' := ((SH l M).put 8 (.d (.sla false 7 l))).put 9 (.func 27 [.ptr 5 1 0 0])) rfl fun a4 w4 hI4 => ?_)
  refine wpOps_one atH2 grdH2 ?_
  obtain ⟨ρ, S, hI⟩ := hI4
  have e8 : RdA w4 S ρ (.d (.sla false 7 l)) (a4.tmps.getD 8 undef) := hI.env 8
  have e9 : RdA w4 S ρ (.func 27 [.ptr 5 1 0 0]) (a4.tmps.getD 9 undef) := hI.env 9
  simp only [RdA] at e8
  simp only [RdA, RdAL] at e9
  obtain ⟨us, e9, _, _, rfl, rfl, rfl⟩ := e9
  have s5 := hI.seg 5 (.mix 32 1 [[.aref 7 1 0 M.length]]) rfl
  have s7 := hI.seg 7 (.dat 3 1 M) rfl
  have hne57 : (ρ 5).1 ≠ (ρ 7).1 := fun h => by
    have := hI.apart 5 7 _ _ rfl rfl h
    omega
  refine headsCall (X := XH (ρ 5).1 M l) (G0 := fun k => k = (ρ 5).1 ∨ k = (ρ 7).1) (g := 27) (caps := #[ptrV (ρ 5).1]) (steps27 hM hz) hz hl hI dstH2 (by omega) e8 (run_callH rfl ?_) ?_ (Nat.zero_le _) ?_ ?_ fun a' w' hI' => headsEnd hI' fun v w' S' hp => ⟨v, rfl, S', hp⟩
  · show a4.tmps.getD 9 undef = _
    rw [e9]
  · refine ⟨fun s => if s = 1001 then ρ 5 else ρ 7, rfl, hne57, fun k => Iff.rfl, seg_box' s5 rfl rfl, seg_at (seg_ints hM s7) rfl⟩
  · rintro k hk (rfl | rfl)
    · exact s5.lt.1 hk
    · exact s7.lt.1 hk
  · rintro b p hs (rfl | rfl)
    · exact s5.lt.2.2 p hs
    · exact s7.lt.2.2 p hs
end Go.Proofs.Ytjejjokdbbedlaa
