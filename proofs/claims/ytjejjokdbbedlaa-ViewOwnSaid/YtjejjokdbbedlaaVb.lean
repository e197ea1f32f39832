/- view.all beside a closure that changes what it captured. No condition. -/
import Derived.Test.YtjejjokdbbedlaaVa
namespace Go.Proofs.Ytjejjokdbbedlaa
open Go Go.Proofs Go.RowKit Vm
set_option linter.unusedVariables false
set_option linter.unusedSimpArgs false
noncomputable abbrev call0 : FuncId → List DV → Option DV := scall tab noSp lsp0 20 (0 + 4)
theorem call0_ok : CallOk Try.prog call0 := scall_ok tab_ok noSp_ok 20 (0 + 4)
/-- a payment's value -/
def payV (e : List DV) : Value := .agg #[.int .i64 (cellA e 0).toI, .int .i64 (cellA e 1).toI, .int .i64 (cellA e 2).toI, .int .i64 (cellA e 3).toI, .int .i64 (cellA e 4).toI, .int .i64 (cellA e 5).toI, .int .i64 (cellA e 6).toI]
theorem payV_of {w : World} {S : Nat → Nat → Prop} {a0 a1 a2 a3 a4 a5 a6 : Int} {v : Value} (h : RdD w S (.agg (p7 a0 a1 a2 a3 a4 a5 a6)) v) : v = payV (p7 a0 a1 a2 a3 a4 a5 a6) := by
  simp only [RdD, p7, RdL] at h
  obtain ⟨vs, rfl, _, _, rfl, rfl, _, _, rfl, rfl, _, _, rfl, rfl, _, _, rfl, rfl, _, _, rfl, rfl, _, _, rfl, rfl, _, _, rfl, rfl, rfl⟩ := h
  rfl
theorem wpOps_one {P : Program} {ops : Array Oper} {Q : Exit → Act → World → Prop} {i : Nat} {rest : List Nat} {a : Act} {w : World} {o : Oper} (h : ops[i]? = some o) (hg : o.guard = none) (hw : o.wp P a w (wpOps P ops Q rest) Q) : wpOps P ops Q (i :: rest) a w := by
  simp only [wpOps, h, Region.wanted, hg, if_true]
  exact .inl hw
theorem wpOps_if {P : Program} {ops : Array Oper} {Q : Exit → Act → World → Prop} {i : Nat} {rest : List Nat} {a : Act} {w : World} {o : Oper} (h : ops[i]? = some o) (hw : if Region.wanted o (yielded ops a.tmps) then o.wp P a w (wpOps P ops Q rest) Q ∨ (o.asks P a w ∧ LetsOut Q) else wpOps P ops Q rest (a.put o.dst undef) w) : wpOps P ops Q (i :: rest) a w := by
  simp only [wpOps, h]
  exact hw
section
variable {X : Hid} {w0 : World} {G0 : Nat → Prop} {S0 : Nat → Nat → Prop} {g : FuncId} {caps : Array Value} {l : List (List DV)} {dec : Nat → Bool}
abbrev vf (g : FuncId) (caps : Array Value) : Value := .func (.func g) #[] caps
/-- what the closure does, step by step -/
def Steps22 (X : Hid) (g : FuncId) (caps : Array Value) (l : List (List DV)) (dec : Nat → Bool) : Prop :=
  ∀ i (hi : i < l.length) (w : World) (G : Nat → Prop), X.H i G w → CallP Try.prog g (#[payV l[i]] ++ caps) w fun v w' => v = .bool (dec i) ∧ ∃ G', X.H (i + 1) G' w' ∧ BelowP (fun k => k < w.heap.size ∧ ¬ G k) w w' ∧ ∀ k, G' k → G k ∨ w.heap.size ≤ k
abbrev J22 (X : Hid) (w0 : World) (G0 : Nat → Prop) (S0 : Nat → Nat → Prop) (g : FuncId) (caps : Array Value) := JInv X w0 G0 S0 23 [(1, vf g caps)]
def rowP (l : List (List DV)) (i : Nat) : List DV := pay7 (l[i]?.getD [])
def SI (l : List (List DV)) (dec : Nat → Bool) (i j : Nat) : St := SA l (parV 20 50020 7 (outN i dec (rowP l))) (j : Nat) (parO1 27 7 (outN i dec (rowP l))) (parO2 27 7 (outN i dec (rowP l)))
/-- the call, and what follows it -/
theorem callRound (hst : Steps22 X g caps l dec) (hS0 : ∀ b o, S0 b o → b < w0.heap.size ∧ ¬ G0 b) {i : Nat} (hi : i < l.length) {a0 a1 a2 a3 a4 a5 a6 : Int} (he : l[i] = p7 a0 a1 a2 a3 a4 a5 a6) {v : AV} {o1 o2 : Option Ob} (hv : Form v o1 o2)
    {a : Act} {w : World} (hJ : J22 X w0 G0 S0 g caps i (SP l v i (p7 a0 a1 a2 a3 a4 a5 a6) o1 o2) a w) {Q : Exit → Act → World → Prop}
    (hQ : ∀ a' w', J22 X w0 G0 S0 g caps (i + 1) (SC l v i (p7 a0 a1 a2 a3 a4 a5 a6) (dec i) o1 o2) a' w' → Q .normal a' w') : (kA (kB KB)).wp Try.prog Q a w := by
  rw [shapeR]
  refine wp_region ?_
  rw [sizeR, show List.range 3 = [0, 1, 2] from rfl]
  refine wpOps_one at0 grd0 ?_
  have hp1 : a.eval (.tmp 1) = vf g caps := by
    have := hJ.pin 1 (vf g caps) (by simp)
    show a.tmps.getD 1 undef = _
    rw [Array.getD_eq_getD_getElem?, this]
    rfl
  refine J_value (pins := [(1, vf g caps)]) dst0 (by decide) free0 hJ (u := vf g caps) (by rw [show execOp a.eval (oAt 0) = pure (Next.value (a.eval (.tmp 1))) by unfold execOp; rw [op0], hp1]; rfl) fun a' w' hJ1 => ?_
  refine wpOps_if at1 ?_
  refine J_ins (pins := [(14, vf g caps), (1, vf g caps)]) call0_ok ci1 free1 hJ1 (st' := ((SP l v i (p7 a0 a1 a2 a3 a4 a5 a6) o1 o2).put 14 .undef).put 15 (.d (.agg (p7 a0 a1 a2 a3 a4 a5 a6)))) rfl fun b2 w2 hJ2 => ?_
  refine wpOps_one at2 grd2 ?_
  have hp14 : b2.eval (.tmp 14) = vf g caps := by
    have := hJ2.pin 14 (vf g caps) (by simp)
    show b2.tmps.getD 14 undef = _
    rw [Array.getD_eq_getD_getElem?, this]
    rfl
  have hp15 : b2.eval (.tmp 15) = payV (p7 a0 a1 a2 a3 a4 a5 a6) := by
    obtain ⟨⟨G, hl, hG, hH, ρ, S, hI⟩, -, -⟩ := hJ2
    have h15 : RdA w2 S ρ (.d (.agg (p7 a0 a1 a2 a3 a4 a5 a6))) (b2.tmps.getD 15 undef) := hI.env 15
    simp only [RdA] at h15
    exact payV_of h15
  refine J_call (pins := [(14, vf g caps), (1, vf g caps)]) dst2 (by decide) free2 hS0 hJ2 (g := g) (args := #[payV l[i]] ++ caps) ?_ (b := dec i) (fun G hH => hst i hi w2 G hH) fun b3 w3 hJ3 => ?_
  · unfold execOp
    rw [op2]
    simp only [callee2, args2, resolve, hp14, Deferred.ofValue, Sem.run_bind, Sem.run_pure, Result.andThen_ok, invoke, Array.empty_append]
    rw [he, ← hp15, show Array.map b2.eval #[Operand.tmp 15] = #[b2.eval (.tmp 15)] from by simp]
  · have hk := (hJ3.keep hC).fewer (pins' := [(1, vf g caps)]) (fun t v h => by simp at h; simp [h])
    have hs : ((((SP l v i (p7 a0 a1 a2 a3 a4 a5 a6) o1 o2).put 14 .undef).put 15 (.d (.agg (p7 a0 a1 a2 a3 a4 a5 a6)))).put 16 (.d (.bool (dec i)))).keep hC = SC l v i (p7 a0 a1 a2 a3 a4 a5 a6) (dec i) o1 o2 := by
      rcases hv with ⟨rfl, rfl, rfl⟩ | ⟨O, rfl, rfl, rfl⟩ | ⟨O, rfl, rfl, rfl⟩ <;> rfl
    rw [hs] at hk
    exact hQ _ _ hk
theorem rowP_at {i : Nat} (hi : i < l.length) : rowP l i = pay7 l[i] := by
  unfold rowP
  rw [List.getElem?_eq_getElem hi]
  rfl
theorem rawQ_ok {O : List (List DV)} {e : List DV} (h : O.length ≤ 10000) : rawQ O e = true := by
  refine decide_eq_true ?_
  rw [List.length_append, List.length_singleton]
  unfold room
  omega
/-- one round -/
theorem round22 (hst : Steps22 X g caps l dec) (hS0 : ∀ b o, S0 b o → b < w0.heap.size ∧ ¬ G0 b) (hz : ∀ e ∈ l, okRow z7 e = true) (hl : l.length ≤ 1000) {i : Nat} (hi : i < l.length) {a : Act} {w : World} (hJ : J22 X w0 G0 S0 g caps i (SI l dec i i) a w) {Q : Exit → Act → World → Prop}
    (hQ : ∀ a' w', J22 X w0 G0 S0 g caps (i + 1) (SI l dec (i + 1) (i + 1)) a' w' → Q .normal a' w') : KL.wp Try.prog Q a w := by
  have hO := outN_len i dec (rowP l)
  have hf := form_par (outN i dec (rowP l))
  obtain ⟨a0, a1, a2, a3, a4, a5, a6, he⟩ := okRow_p (hz _ (List.getElem_mem hi))
  have he : l[i] = p7 a0 a1 a2 a3 a4 a5 a6 := he
  have hpay : pay7 l[i] = p7 a0 a1 a2 a3 a4 a5 a6 := by rw [he]; rfl
  rw [shapeL]
  refine wp_seq (J_piece (N := 23) (R := []) (pins := [(1, vf g caps)]) call0_ok (h := hA) rfl okA ccA (fun k => (vA 20 0 l i hf k)) hJ fun b1 w1 hJ1 => ?_)
  rw [lt_dec hi] at hJ1
  refine wp_seq (J_piece (N := 23) (R := []) (pins := [(1, vf g caps)]) call0_ok (h := hS) rfl okC ccC (fun k => vC 20 0 l i hf k) hJ1 fun b2 w2 hJ2 => ?_)
  refine wp_seq (wp_block ?_)
  rw [shapeB]
  refine wp_seq (J_piece (N := 23) (R := []) (pins := [(1, vf g caps)]) call0_ok (h := hP) rfl okP ccP (e := .nrm) (st' := SP l (parV 20 50020 7 (outN i dec (rowP l))) i (p7 a0 a1 a2 a3 a4 a5 a6) (parO1 27 7 (outN i dec (rowP l))) (parO2 27 7 (outN i dec (rowP l)))) (fun k => ?_) hJ2 fun b3 w3 hJ3 => ?_)
  · rw [vP 20 0 l i hf k, decide_eq_true (show (0 : Int) ≤ ((i : Nat) : Int) by omega), cond_true, look_at hi, hz _ (List.getElem_mem hi), cond_true, hpay]
  refine wp_seq (callRound hst hS0 hi he hf hJ3 fun b4 w4 hJ4 => ?_)
  have key : ∀ a5 w5, J22 X w0 G0 S0 g caps (i + 1) (SI l dec (i + 1) i) a5 w5 → (kB (kB (kB KL))).wp Try.prog Q a5 w5 := fun b5 w5 hJ5 =>
    J_piece (N := 23) (R := []) (pins := [(1, vf g caps)]) call0_ok (h := hS) rfl okD ccD (fun k => vD 20 0 l i (form_par (outN (i + 1) dec (rowP l))) k) hJ5 fun b6 w6 hJ6 => hQ b6 w6 (by rw [wrap_succ (by omega)] at hJ6; exact hJ6)
  cases hd : dec i with
  | false =>
    rw [hd] at hJ4
    refine J_piece (N := 23) (R := []) (pins := [(1, vf g caps)]) call0_ok (h := hS) rfl okQ ccQ (fun k => vQ0 20 0 l i a0 _ _ _ _ _ _ hf k) hJ4 fun b5 w5 hJ5 => key b5 w5 ?_
    unfold SI
    rw [outN_succ, hd, cond_false, List.append_nil]
    exact hJ5
  | true =>
    rw [hd] at hJ4
    have hrow : rowP l i = p7 a0 a1 a2 a3 a4 a5 a6 := by rw [rowP_at hi, hpay]
    have hsucc : outN (i + 1) dec (rowP l) = outN i dec (rowP l) ++ [p7 a0 a1 a2 a3 a4 a5 a6] := by rw [outN_succ, hd, cond_true, hrow]
    unfold SI at key
    rw [hsucc] at key
    generalize outN i dec (rowP l) = O at *
    by_cases hO0 : O = []
    · subst hO0
      exact J_piece (N := 23) (R := []) (pins := [(1, vf g caps)]) call0_ok (h := hS) rfl okQ ccQ (fun k => vQA 20 0 l i a0 _ _ _ _ _ _ k) hJ4 fun b5 w5 hJ5 => key b5 w5 hJ5
    · cases hp : parB (O.length - 1) with
      | true =>
        have h0 := par_B0 (s := 20) (s' := 50020) (el := 27) (sz := 7) hO0 hp
        have h1 := par_B (s := 20) (s' := 50020) (el := 27) (sz := 7) hO0 hp (p7 a0 a1 a2 a3 a4 a5 a6)
        rw [h0.1, h0.2.1, h0.2.2] at hJ4
        rw [h1.1, h1.2.1, h1.2.2] at key
        have hx : ∀ k, LB tab noSp lsp0 20 (0+4) hS (xB (xB AB)) (SC l (.aref 20 7 0 O.length) i (p7 a0 a1 a2 a3 a4 a5 a6) true (some (.dat 27 7 O)) none) k = k .nrm (SA l (.aref 50020 7 0 (O ++ [p7 a0 a1 a2 a3 a4 a5 a6]).length) i none (some (.dat 27 7 (O ++ [p7 a0 a1 a2 a3 a4 a5 a6])))) := fun k => (vQB 20 0 l O i a0 _ _ _ _ _ _ k).trans (by rw [rawQ_ok (by omega)]; rfl)
        exact J_piece (N := 23) (R := []) (pins := [(1, vf g caps)]) call0_ok (h := hS) rfl okQ ccQ hx hJ4 fun b5 w5 hJ5 => key b5 w5 hJ5
      | false =>
        have h0 := par_C0 (s := 20) (s' := 50020) (el := 27) (sz := 7) hO0 hp
        have h1 := par_C (s := 20) (s' := 50020) (el := 27) (sz := 7) hO0 hp (p7 a0 a1 a2 a3 a4 a5 a6)
        rw [h0.1, h0.2.1, h0.2.2] at hJ4
        rw [h1.1, h1.2.1, h1.2.2] at key
        have hx : ∀ k, LB tab noSp lsp0 20 (0+4) hS (xB (xB AB)) (SC l (.aref 50020 7 0 O.length) i (p7 a0 a1 a2 a3 a4 a5 a6) true none (some (.dat 27 7 O))) k = k .nrm (SA l (.aref 20 7 0 (O ++ [p7 a0 a1 a2 a3 a4 a5 a6]).length) i (some (.dat 27 7 (O ++ [p7 a0 a1 a2 a3 a4 a5 a6]))) none) := fun k => (vQC 20 0 l O i a0 _ _ _ _ _ _ k).trans (by rw [rawQ_ok (by omega)]; rfl)
        exact J_piece (N := 23) (R := []) (pins := [(1, vf g caps)]) call0_ok (h := hS) rfl okQ ccQ hx hJ4 fun b5 w5 hJ5 => key b5 w5 hJ5
theorem ret22 (O : List (List DV)) : aRet (SF (parV 20 50020 7 O) (parO1 27 7 O) (parO2 27 7 O)) [.t 4] = some (cond O.isEmpty .nilsl (.sl (.own 27) 7 O)) := by
  have e : ∀ st, aRetK st [.t 4] some = aRet st [.t 4] := fun st => by rw [aRetK_eq]; simp
  have q : retQ O = some (.sl (.own 27) 7 O) := by
    unfold retQ
    rw [decide_eq_true rfl, cond_true]
  rw [← e]
  by_cases hO : O = []
  · subst hO
    exact retA
  · have hne : O.isEmpty = false := by cases O with | nil => exact absurd rfl hO | cons a t => rfl
    rw [hne, cond_false]
    cases hp : parB (O.length - 1) with
    | true =>
      have h0 := par_B0 (s := 20) (s' := 50020) (el := 27) (sz := 7) hO hp
      rw [h0.1, h0.2.1, h0.2.2]
      exact (retB O).trans q
    | false =>
      have h0 := par_C0 (s := 20) (s' := 50020) (el := 27) (sz := 7) hO hp
      rw [h0.1, h0.2.1, h0.2.2]
      exact (retC O).trans q
/-- what view.all gives, whatever its closure changes -/
theorem all22 (hst : Steps22 X g caps l dec) (hS0 : ∀ b o, S0 b o → b < w0.heap.size ∧ ¬ G0 b) (hz : ∀ e ∈ l, okRow z7 e = true) (hl : l.length ≤ 1000) (hH : X.H 0 G0 w0) (hbd : X.B ≤ w0.heap.size) {vl : Value} (hvl : RdD w0 S0 (.sla false 7 l) vl) :
    Calls Try.prog 22 #[vl, vf g caps] w0 fun e w' => ∃ v S', e = .returned v ∧ Post (hidOut w0 G0) S0 (cond (outN l.length dec (rowP l)).isEmpty .nilsl (.sl (.own 27) 7 (outN l.length dec (rowP l)))) v w' S' := by
  refine calls_of_wp func22 body22 ?_
  rw [ntmps22, shape22]
  have hJ := J_init (X := X) (G0 := G0) (w0 := w0) (S0 := S0) (N := 23) (pins := [(1, vf g caps)]) (ds := [.sla false 7 l]) (vs := [vl, vf g caps]) (show (2 : Nat) ≤ 23 by omega) (fun t x hx => by
    cases t with
    | zero =>
      simp only [List.getElem?_cons_zero, Option.some.injEq] at hx
      subst hx
      exact ⟨vl, rfl, hvl⟩
    | succ t => simp at hx) (fun b o h => (hS0 b o h).1) hH hbd (fun t v h => by
    simp only [List.mem_singleton, Prod.mk.injEq] at h
    obtain ⟨rfl, rfl⟩ := h
    simp [Array.getElem?_append])
  refine wp_seq (J_piece (N := 23) (R := []) (pins := [(1, vf g caps)]) call0_ok (h := h0) rfl ok1 cc1 (fun k => v1 20 0 l k) hJ fun b1 w1 hJ1 => ?_)
  refine wp_seq (J_piece (N := 23) (R := []) (pins := [(1, vf g caps)]) call0_ok (h := h5) rfl ok2 cc2 (fun k => v2 20 0 l k) hJ1 fun b2 w2 hJ2 => ?_)
  refine wp_seq (wp_seq (J_piece (N := 23) (R := []) (pins := [(1, vf g caps)]) call0_ok (h := hS) rfl ok3 cc3 (fun k => v3 20 0 l k) hJ2 fun b3 w3 hJ3 => wp_block ?_))
  refine wp_loop_rounds (l.length + 1) ?_
  have fin : ∀ a w, J22 X w0 G0 S0 g caps l.length (SA1 l (parV 20 50020 7 (outN l.length dec (rowP l))) (l.length : Nat) false (parO1 27 7 (outN l.length dec (rowP l))) (parO2 27 7 (outN l.length dec (rowP l)))) a w →
      (Code.seq (kA (kB (kB (kB B22)))) .ret).wp Try.prog (bodyPost Try.prog Try.f22 fun e w' => ∃ v S', e = .returned v ∧ Post (hidOut w0 G0) S0 (cond (outN l.length dec (rowP l)).isEmpty .nilsl (.sl (.own 27) 7 (outN l.length dec (rowP l)))) v w' S') a w := fun a w hJ => by
    refine wp_seq (J_piece (N := 23) (R := []) (pins := [(1, vf g caps)]) call0_ok (h := hF) rfl ok4 cc4 (fun k => vF 20 0 l (l.length : Nat) (form_par (outN l.length dec (rowP l))) k) hJ fun a' w' hJ' => wp_ret ?_)
    have hm : resMono (cond (outN l.length dec (rowP l)).isEmpty .nilsl (.sl (.own 27) 7 (outN l.length dec (rowP l)))) := by
      cases (outN l.length dec (rowP l)).isEmpty
      · exact resMono_own _ _ _
      · exact resMono_nil
    obtain ⟨h1, v, h2, S', h3⟩ := J_ret res22 (ret22 _) hm hJ'
    exact ⟨h1, v, h2, v, S', rfl, h3⟩
  have key : ∀ m i, i + m = l.length → ∀ a w, J22 X w0 G0 S0 g caps i (SI l dec i i) a w → Code.rounds Try.prog KL (Exit.inBlock 0 (Exit.then ((Code.seq (kA (kB (kB (kB B22)))) .ret).wp Try.prog (bodyPost Try.prog Try.f22 fun e w' => ∃ v S', e = .returned v ∧ Post (hidOut w0 G0) S0 (cond (outN l.length dec (rowP l)).isEmpty .nilsl (.sl (.own 27) 7 (outN l.length dec (rowP l)))) v w' S')) (bodyPost Try.prog Try.f22 fun e w' => ∃ v S', e = .returned v ∧ Post (hidOut w0 G0) S0 (cond (outN l.length dec (rowP l)).isEmpty .nilsl (.sl (.own 27) 7 (outN l.length dec (rowP l)))) v w' S'))) (m + 1) a w := by
    intro m
    induction m with
    | zero =>
      intro i him a w hJi
      have hi : i = l.length := by omega
      subst hi
      rw [rounds_succ]
      rw [shapeL]
      have hf := form_par (outN l.length dec (rowP l))
      refine wp_seq (J_piece (N := 23) (R := []) (pins := [(1, vf g caps)]) call0_ok (h := hA) rfl okA ccA (fun k => vA 20 0 l l.length hf k) hJi fun b1 w1 hJ1 => ?_)
      rw [lt_dec_self] at hJ1
      refine wp_seq (J_piece (N := 23) (R := []) (pins := [(1, vf g caps)]) call0_ok (h := hS) rfl okC ccC (fun k => vX 20 0 l l.length hf k) hJ1 fun b2 w2 hJ2 => ?_)
      exact fin b2 w2 hJ2
    | succ m ih =>
      intro i him a w hJi
      rw [rounds_succ]
      exact round22 hst hS0 hz hl (by omega) hJi fun a' w' hJ' => ih (i + 1) (by omega) a' w' hJ'
  exact key l.length 0 (by omega) b3 w3 hJ3
end
end Go.Proofs.Ytjejjokdbbedlaa
