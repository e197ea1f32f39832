/- A run beside what a closure may change: what is hidden in some blocks; slots that are written once. No condition. -/
import Derived.Test.YtjejjokdbbedlaaVmT
namespace Go.Proofs.Ytjejjokdbbedlaa.Vm
open Go Go.RowKit
set_option linter.unusedVariables false
set_option linter.unusedSimpArgs false
set_option linter.unusedSectionVars false
section
variable {P : Program} {N : Nat} {R : List Nat} {call : FuncId → List DV → Option DV}

/-! ### slots that are known exactly -/
def Pins (pins : List (Nat × Value)) (a : Act) : Prop := ∀ t v, (t, v) ∈ pins → a.tmps[t]? = some v
def freeOf (ts : List Nat) (o : Oper) : Bool := match o.dst with | some d => !ts.contains d | none => true
def okPins (ts : List Nat) : Code → Bool
  | .skip => true
  | .region _ ops false => ops.toList.all (freeOf ts)
  | .seq a b => okPins ts a && okPins ts b
  | .cond _ a b => okPins ts a && okPins ts b
  | .block _ b => okPins ts b
  | .exit _ => true
  | .ret => true
  | _ => false
theorem Pins.put {pins : List (Nat × Value)} {a : Act} {o : Oper} {v : Value} (h : Pins pins a) (ho : freeOf (pins.map (·.1)) o = true) : Pins pins (a.put o.dst v) := by
  intro t u ht
  have h1 := h t u ht
  unfold Act.put
  cases hd : o.dst with
  | none => exact h1
  | some d =>
    simp only [freeOf, hd, Bool.not_eq_true', List.contains_eq_mem, decide_eq_false_iff_not] at ho
    have hne : d ≠ t := fun e => ho (by rw [e]; exact List.mem_map.2 ⟨(t, u), ht, rfl⟩)
    show (a.tmps.setIfInBounds d v)[t]? = some u
    rw [Array.getElem?_setIfInBounds_ne hne]
    exact h1
theorem upon_pins {pins : List (Nat × Value)} {o : Oper} {a : Act} {K K' : Act → World → Prop} {Q Q' : Exit → Act → World → Prop} (hp : Pins pins a) (ho : freeOf (pins.map (·.1)) o = true)
    (hK : ∀ a' w', Pins pins a' → K a' w' → K' a' w') (hQ : ∀ e a' w', e ≠ .normal → Q e a' w' → Q' e a' w') (r : Result Next) (h : o.upon P a K Q r) : o.upon P a K' Q' r := by
  have hd : ∀ d v, Pins pins ({ a with defers := d :: a.defers }.put o.dst v) := fun d v => Pins.put (a := { a with defers := d :: a.defers }) (fun t v ht => hp t v ht) ho
  unfold Oper.upon at h ⊢
  split at h <;> try exact h.elim
  · exact hK _ _ (hp.put ho) h
  · exact hK _ _ (hp.put ho) h
  · exact hK _ _ (hd _ _) h
  · refine h.mono fun e w' he => ?_
    cases e with
    | returned v => exact hK _ _ (hp.put ho) he
    | panicked ch => exact hQ _ _ _ (by simp) he
    | outgrown =>
      obtain ⟨a1, w1, h1⟩ := he
      exact ⟨a1, w1, hQ _ _ _ (by simp) h1⟩
  · exact h.mono fun v w' he => hK _ _ (hp.put ho) he
  · exact hQ _ _ _ (by simp) h
theorem lets_mono {Q Q' : Exit → Act → World → Prop} (hQ : ∀ e a' w', e ≠ .normal → Q e a' w' → Q' e a' w') (h : LetsOut Q) : LetsOut Q' := by
  obtain ⟨a1, w1, h1⟩ := h
  exact ⟨a1, w1, hQ _ _ _ (by simp) h1⟩
theorem wpOps_pins {pins : List (Nat × Value)} {ops : Array Oper} {Q Q' : Exit → Act → World → Prop} (ho : ops.toList.all (freeOf (pins.map (·.1))) = true)
    (hN : ∀ a' w', Pins pins a' → Q .normal a' w' → Q' .normal a' w') (hQ : ∀ e a' w', e ≠ .normal → Q e a' w' → Q' e a' w') : ∀ (ks : List Nat) (a : Act) (w : World), Pins pins a → wpOps P ops Q ks a w → wpOps P ops Q' ks a w
  | [], a, w, hp, h => hN a w hp h
  | i :: ks, a, w, hp, h => by
    simp only [wpOps] at h ⊢
    cases hi : ops[i]? with
    | none =>
      simp only [hi] at h
      exact wpOps_pins ho hN hQ ks a w hp h
    | some o =>
      simp only [hi] at h
      have hof : freeOf (pins.map (·.1)) o = true := List.all_eq_true.1 ho o (by
        obtain ⟨hlt, he⟩ := Array.getElem?_eq_some_iff.1 hi
        rw [← he]
        exact Array.getElem_mem_toList hlt)
      simp only
      split at h
      · rename_i hw
        rw [if_pos hw]
        rcases h with h | ⟨h1, h2⟩
        · exact .inl (upon_pins hp hof (fun a' w' hp' hk => wpOps_pins ho hN hQ ks a' w' hp' hk) hQ _ h)
        · exact .inr ⟨h1, lets_mono hQ h2⟩
      · rename_i hw
        rw [if_neg hw]
        exact wpOps_pins ho hN hQ ks _ w (hp.put hof) h

/-! ### what is hidden -/
/-- a state beside a run, told by a number: it lies in some blocks and hangs on these alone, and on what no run changes -/
structure Hid where
  B : Nat
  H : Nat → (Nat → Prop) → World → Prop
  lt : ∀ i G w, H i G w → ∀ k, G k → k < w.heap.size
  stab : ∀ i G w w', H i G w → (∀ k, k < B ∨ G k → w'.heap[k]? = w.heap[k]?) → w.heap.size ≤ w'.heap.size → H i G w'
/-- the blocks that a run beside it may not change -/
def hidBase (w : World) (B : Nat) (G : Nat → Prop) (h : ∀ k, k < B ∨ G k → k < w.heap.size) : Base := ⟨w, fun k => k < B ∨ G k, h⟩
structure JInv (X : Hid) (w0 : World) (G0 : Nat → Prop) (S0 : Nat → Nat → Prop) (N : Nat) (pins : List (Nat × Value)) (i : Nat) (st : St) (a : Act) (w : World) : Prop where
  ex : ∃ (G : Nat → Prop) (h : ∀ k, k < w0.heap.size ∨ G k → k < w.heap.size), (∀ k, G k → G0 k ∨ w0.heap.size ≤ k) ∧ X.H i G w ∧ InvE (hidBase w w0.heap.size G h) S0 N st a w
  below : BelowP (fun k => k < w0.heap.size ∧ ¬ G0 k) w0 w
  pin : Pins pins a
  bnd : X.B ≤ w0.heap.size
variable {X : Hid} {w0 : World} {G0 : Nat → Prop} {S0 : Nat → Nat → Prop} {pins : List (Nat × Value)} {i : Nat} {st st' : St} {a : Act} {w : World}
theorem Inv.rebase {w w' : World} {B : Nat} {G : Nat → Prop} {h : ∀ k, k < B ∨ G k → k < w.heap.size} {h' : ∀ k, k < B ∨ G k → k < w'.heap.size} {ρ : Nat → Nat × Nat} {S : Nat → Nat → Prop} (hI : Inv (hidBase w B G h) S0 N ρ S st a w') : Inv (hidBase w' B G h') S0 N ρ S st a w' :=
  ⟨hI.size, hI.defers, hI.env, hI.whens, hI.nots, hI.seg, hI.apart, hI.live, hI.up, hI.new, BelowP.refl _ _⟩
theorem JInv.re (hbd : X.B ≤ w0.heap.size) {G : Nat → Prop} {h : ∀ k, k < w0.heap.size ∨ G k → k < w.heap.size} (hG : ∀ k, G k → G0 k ∨ w0.heap.size ≤ k) (hH : X.H i G w) (hb : BelowP (fun k => k < w0.heap.size ∧ ¬ G0 k) w0 w) {a' : Act} {w' : World}
    (hI : InvE (hidBase w w0.heap.size G h) S0 N st' a' w') (hp : Pins pins a') : JInv X w0 G0 S0 N pins i st' a' w' := by
  obtain ⟨ρ, S, hI⟩ := hI
  have hbel : BelowP (fun k => k < w0.heap.size ∨ G k) w w' := hI.below
  have h' : ∀ k, k < w0.heap.size ∨ G k → k < w'.heap.size := fun k hk => Nat.lt_of_lt_of_le (h k hk) hbel.size
  exact ⟨⟨G, h', hG, X.stab _ _ _ _ hH (fun k hk => hbel.block k (hk.elim (fun h => .inl (Nat.lt_of_lt_of_le h hbd)) .inr)) hbel.size, ρ, S, hI.rebase⟩, hb.trans (hbel.mono fun k hk => .inl hk.1), hp, hbd⟩
theorem JInv.keep (hJ : JInv X w0 G0 S0 N pins i st a w) (h : Hint) : JInv X w0 G0 S0 N pins i (st.keep h) a w := by
  obtain ⟨⟨G, hl, hG, hH, hI⟩, hb, hp, hbd⟩ := hJ
  exact ⟨⟨G, hl, hG, hH, hI.keep h⟩, hb, hp, hbd⟩
theorem JInv.fewer {pins' : List (Nat × Value)} (hJ : JInv X w0 G0 S0 N pins i st a w) (h : ∀ t v, (t, v) ∈ pins' → (t, v) ∈ pins) : JInv X w0 G0 S0 N pins' i st a w :=
  ⟨hJ.ex, hJ.below, fun t v ht => hJ.pin t v (h t v ht), hJ.bnd⟩
/-- operations, run by the pure machine beside what is hidden -/
theorem J_ins (hcall : CallOk P call) {ops : Array Oper} {o : Oper} {x : AIns} (hc : cIns P R N ops o = some x) (ho : freeOf (pins.map (·.1)) o = true) (hJ : JInv X w0 G0 S0 N pins i st a w) (h : insStep call x st = some st') {K : Act → World → Prop} {Q : Exit → Act → World → Prop}
    (hK : ∀ a' w', JInv X w0 G0 S0 N pins i st' a' w' → K a' w') :
    if Region.wanted o (yielded ops a.tmps) then o.wp P a w K Q ∨ (o.asks P a w ∧ LetsOut Q) else K (a.put o.dst undef) w := by
  obtain ⟨⟨G, hl, hG, hH, hI⟩, hb, hp, hbd⟩ := hJ
  have key := ins_sound (Q := fun e a' w' => False) hcall hc hI h (K := fun a' w' => InvE (hidBase w w0.heap.size G hl) S0 N st' a' w') fun a' w' hI' => hI'
  split at key
  · rename_i hw
    rw [if_pos hw]
    rcases key with key | ⟨_, _, _, hf⟩
    · exact .inl (upon_pins hp ho (fun a' w' hp' hk => hK a' w' (JInv.re hbd hG hH hb hk hp')) (fun e a' w' _ hf => hf.elim) _ key)
    · exact hf.elim
  · rename_i hw
    rw [if_neg hw]
    exact hK _ _ (JInv.re hbd hG hH hb key (hp.put ho))
theorem J_reg (hcall : CallOk P call) {ops : Array Oper} {l : List AIns} (hm : mapO (cIns P R N ops) ops.toList = some l) (ho : ops.toList.all (freeOf (pins.map (·.1))) = true) (hJ : JInv X w0 G0 S0 N pins i st a w) (h : runIns call l st = some st') {Q : Exit → Act → World → Prop}
    (hQ : ∀ a' w', JInv X w0 G0 S0 N pins i st' a' w' → Q .normal a' w') : wpOps P ops Q (List.range ops.size) a w := by
  obtain ⟨⟨G, hl, hG, hH, hI⟩, hb, hp, hbd⟩ := hJ
  rw [List.range_eq_range']
  have key := reg_sound (ops := ops) (Q := fun e a' w' => e = .normal ∧ InvE (hidBase w w0.heap.size G hl) S0 N st' a' w') hcall ops.size 0 l (by omega) (by simpa using hm) st st' a w hI h fun a' w' hI' => ⟨rfl, hI'⟩
  exact wpOps_pins ho (fun a' w' hp' hk => hQ a' w' (JInv.re hbd hG hH hb hk.2 hp')) (fun e a' w' hne hf => absurd hf.1 hne) _ a w hp key
theorem J_code (hcall : CallOk P call) {run : Run} {L : Nat} : ∀ (c : Code) (ac : AC), okPins (pins.map (·.1)) c = true → cCode P R N c = some ac.erase → ∀ (st st' : St) (e : Ex), exec call run L ac st = some (e, st') → ∀ (a : Act) (w : World), JInv X w0 G0 S0 N pins i st a w →
    ∀ (Q : Exit → Act → World → Prop), (∀ a' w', JInv X w0 G0 S0 N pins i st' a' w' → Q e.to a' w') → c.wp P Q a w
  | .skip, ac, ho, hc, st, st', e, h, a, w, hJ, Q, hQ => by
    simp only [cCode, Option.some.injEq] at hc
    cases erase_skip hc.symm
    simp only [exec, Option.some.injEq, Prod.mk.injEq] at h
    obtain ⟨rfl, rfl⟩ := h
    exact wp_skip (hQ a w hJ)
  | .region id ops false, ac, ho, hc, st, st', e, h, a, w, hJ, Q, hQ => by
    simp only [cCode] at hc
    split at hc
    case h_2 =>
      cases erase_bad (Option.some.inj hc).symm
      simp [exec] at h
    rename_i l hm
    cases erase_reg (Option.some.inj hc).symm
    simp only [exec, Option.map_eq_some_iff, Prod.mk.injEq] at h
    obtain ⟨st1, h1, rfl, rfl⟩ := h
    exact wp_region (J_reg hcall hm ho hJ h1 hQ)
  | .seq x y, ac, ho, hc, st, st', e, h, a, w, hJ, Q, hQ => by
    have ho' := Bool.and_eq_true_iff.1 (show (okPins (pins.map (·.1)) x && okPins (pins.map (·.1)) y) = true from ho)
    simp only [cCode] at hc
    cases hx : cCode P R N x with
    | none => simp [hx] at hc
    | some ax =>
      cases hy : cCode P R N y with
      | none => simp [hx, hy] at hc
      | some ay =>
        simp only [hx, hy, Option.some.injEq] at hc
        obtain ⟨ax, ay, rfl, rfl, rfl⟩ := erase_seq hc.symm
        simp only [exec] at h
        refine wp_seq ?_
        cases he : exec call run L ax st with
        | none => simp [he] at h
        | some r =>
          obtain ⟨e1, st1⟩ := r
          refine J_code hcall x ax ho'.1 hx st st1 e1 he a w hJ _ fun a' w' hJ' => ?_
          cases e1 with
          | nrm =>
            simp only [he] at h
            exact J_code hcall y ay ho'.2 hy st1 st' e h a' w' hJ' Q hQ
          | ex id =>
            simp only [he, Option.some.injEq, Prod.mk.injEq] at h
            obtain ⟨rfl, rfl⟩ := h
            exact hQ a' w' hJ'
          | ret =>
            simp only [he, Option.some.injEq, Prod.mk.injEq] at h
            obtain ⟨rfl, rfl⟩ := h
            exact hQ a' w' hJ'
  | .cond c x y, ac, ho, hc, st, st', e, h, a, w, hJ, Q, hQ => by
    have ho' := Bool.and_eq_true_iff.1 (show (okPins (pins.map (·.1)) x && okPins (pins.map (·.1)) y) = true from ho)
    simp only [cCode] at hc
    split at hc
    · rename_i axc ax ay h1 h2 h3
      simp only [Option.some.injEq] at hc
      obtain ⟨ax, ay, rfl, rfl, rfl⟩ := erase_cond hc.symm
      simp only [exec] at h
      split at h
      · rename_i t ht
        obtain ⟨⟨G, hl, hG, hH, ρ, S, hI1⟩, hb, hp, hbd⟩ := hJ
        refine wp_cond (bool_of (ax_sound hI1 h1) ht) ?_
        have hJ : JInv X w0 G0 S0 N pins i st a w := ⟨⟨G, hl, hG, hH, ρ, S, hI1⟩, hb, hp, hbd⟩
        cases t with
        | true =>
          simp only [if_true] at h ⊢
          exact J_code hcall x ax ho'.1 h2 st st' e h a w hJ Q hQ
        | false =>
          simp only [Bool.false_eq_true, if_false] at h ⊢
          exact J_code hcall y ay ho'.2 h3 st st' e h a w hJ Q hQ
      · cases h
    · cases erase_bad (Option.some.inj hc).symm
      simp [exec] at h
  | .block id b, ac, ho, hc, st, st', e, h, a, w, hJ, Q, hQ => by
    simp only [cCode, Option.map_eq_some_iff] at hc
    obtain ⟨ab, hb, hc⟩ := hc
    obtain ⟨ab, rfl, rfl⟩ := erase_block hc.symm
    simp only [exec] at h
    refine wp_block ?_
    cases he : exec call run L ab st with
    | none => simp [he] at h
    | some r =>
      obtain ⟨e1, st1⟩ := r
      refine J_code hcall b ab ho hb st st1 e1 he a w hJ _ fun a' w' hJ' => ?_
      cases e1 with
      | nrm =>
        simp only [he, Option.some.injEq, Prod.mk.injEq] at h
        obtain ⟨rfl, rfl⟩ := h
        exact hQ a' w' hJ'
      | ex id' =>
        simp only [he] at h
        simp only [Ex.to, Exit.inBlock]
        split at h
        · rename_i hid
          simp only [Option.some.injEq, Prod.mk.injEq] at h
          obtain ⟨rfl, rfl⟩ := h
          rw [if_pos hid]
          exact hQ a' w' hJ'
        · rename_i hid
          simp only [Option.some.injEq, Prod.mk.injEq] at h
          obtain ⟨rfl, rfl⟩ := h
          rw [if_neg hid]
          exact hQ a' w' hJ'
      | ret =>
        simp only [he, Option.some.injEq, Prod.mk.injEq] at h
        obtain ⟨rfl, rfl⟩ := h
        exact hQ a' w' hJ'
  | .exit id, ac, ho, hc, st, st', e, h, a, w, hJ, Q, hQ => by
    simp only [cCode, Option.some.injEq] at hc
    obtain ⟨o, rfl⟩ := erase_exit hc.symm
    simp only [exec, Option.some.injEq, Prod.mk.injEq] at h
    obtain ⟨rfl, rfl⟩ := h
    refine wp_exit (hQ a w ?_)
    cases o with
    | none => exact hJ
    | some h => exact hJ.keep h
  | .ret, ac, ho, hc, st, st', e, h, a, w, hJ, Q, hQ => by
    simp only [cCode, Option.some.injEq] at hc
    obtain ⟨o, rfl⟩ := erase_ret hc.symm
    simp only [exec, Option.some.injEq, Prod.mk.injEq] at h
    obtain ⟨rfl, rfl⟩ := h
    refine wp_ret (hQ a w ?_)
    cases o with
    | none => exact hJ
    | some h => exact hJ.keep h
  | .region _ _ true, ac, ho, _, _, _, _, _, _, _, _, _, _ => by cases ho
  | .loop _, ac, ho, _, _, _, _, _, _, _, _, _, _ => by cases ho
  | .rangeFunc _ _ _ _, ac, ho, _, _, _, _, _, _, _, _, _, _ => by cases ho
  | .scope _, ac, ho, _, _, _, _, _, _, _, _, _, _ => by cases ho
  | .label _, ac, ho, _, _, _, _, _, _, _, _, _, _ => by cases ho
  | .goto _, ac, ho, _, _, _, _, _, _, _, _, _, _ => by cases ho
  | .refuse _, ac, ho, _, _, _, _, _, _, _, _, _, _ => by cases ho

/-! ### a call that changes what is hidden -/
theorem SegOk.reb {B B' : Nat → Prop} {w : World} {S : Nat → Nat → Prop} {ρ : Nat → Nat × Nat} {s : Nat} {o : Ob} (h : SegOk B w S ρ s o) (hB : ¬ B' (ρ s).1) : SegOk B' w S ρ s o := by
  cases o with
  | dat el sz es => exact ⟨h.1, ⟨hB, h.2.here, h.2.fits, h.2.len, h.2.apart⟩⟩
  | mix el sz es => exact ⟨h.1, ⟨hB, h.2.here, h.2.fits, h.2.len, h.2.apart⟩⟩
theorem Inv.beside {w w' : World} {B : Nat} {G G' : Nat → Prop} {h : ∀ k, k < B ∨ G k → k < w.heap.size} {h' : ∀ k, k < B ∨ G' k → k < w'.heap.size} {ρ : Nat → Nat × Nat} {S : Nat → Nat → Prop} (hI : Inv (hidBase w B G h) S0 N ρ S st a w) (hS0 : ∀ b o, S0 b o → ¬ G b)
    (hb : BelowP (fun k => k < w.heap.size ∧ ¬ G k) w w') (hG' : ∀ k, G' k → G k ∨ w.heap.size ≤ k) : Inv (hidBase w' B G' h') S0 N ρ S st a w' := by
  have hSG : ∀ b o, S b o → ¬ G b := fun b o hs hg => by
    rcases hI.new b o hs with h | h
    · exact hS0 b o h hg
    · exact h (.inr hg)
  have hk : Kept w w' S S := ⟨fun _ _ h => h, fun b p hbp u hu => by
    rw [World.cell?] at hu ⊢
    rw [hb.block b ⟨hI.live b p hbp, hSG b p hbp⟩]; exact hu⟩
  refine ⟨hI.size, hI.defers, fun t => RdA.kept hk _ _ (hI.env t), fun n t want v he h => RdA.kept hk _ _ (hI.whens n t want v he h), hI.nots, fun s o hs => ?_, hI.apart, fun b o h => Nat.lt_of_lt_of_le (hI.live b o h) hb.size, hI.up, fun b o h => ?_, BelowP.refl _ _⟩
  · have hl := (hI.seg s o hs).lt
    have hno : ¬ G (ρ s).1 := fun hg => hl.1 (.inr hg)
    refine SegOk.reb (SegOk.kept hk (hI.seg s o hs) (hb.block _ ⟨hl.2.1, hno⟩) hl.2.2) fun hb' => ?_
    rcases hb' with hb' | hb'
    · exact hl.1 (.inl hb')
    · rcases hG' _ hb' with hg | hg
      · exact hno hg
      · have := hl.2.1
        omega
  · rcases hI.new b o h with h1 | h1
    · exact .inl h1
    · refine .inr fun hb' => h1 ?_
      rcases hb' with hb' | hb'
      · exact .inl hb'
      · rcases hG' _ hb' with hg | hg
        · exact .inr hg
        · have := hI.live b o h
          omega
theorem J_call {o : Oper} {t : Nat} (hdst : o.dst = some t) (ht : t < N) (ho : freeOf (pins.map (·.1)) o = true) (hS0 : ∀ b o, S0 b o → b < w0.heap.size ∧ ¬ G0 b) (hJ : JInv X w0 G0 S0 N pins i st a w) {g : FuncId} {args : Array Value}
    (hrun : (execOp a.eval o).run P w = (callFunc g args).run P w) {b : Bool}
    (hstep : ∀ G, X.H i G w → CallP P g args w fun v w' => v = .bool b ∧ ∃ G', X.H (i + 1) G' w' ∧ BelowP (fun k => k < w.heap.size ∧ ¬ G k) w w' ∧ ∀ k, G' k → G k ∨ w.heap.size ≤ k)
    {K : Act → World → Prop} {Q : Exit → Act → World → Prop} (hK : ∀ a' w', JInv X w0 G0 S0 N pins (i + 1) (st.put t (.d (.bool b))) a' w' → K a' w') : o.wp P a w K Q := by
  obtain ⟨⟨G, hl, hG, hH, ρ, S, hI⟩, hbel, hp, hbd⟩ := hJ
  have hS0' : ∀ b o, S0 b o → ¬ G b := fun b o hs hg => by
    obtain ⟨h1, h2⟩ := hS0 b o hs
    rcases hG b hg with h | h
    · exact h2 h
    · omega
  have fin : ∀ v w', (v = .bool b ∧ ∃ G', X.H (i + 1) G' w' ∧ BelowP (fun k => k < w.heap.size ∧ ¬ G k) w w' ∧ ∀ k, G' k → G k ∨ w.heap.size ≤ k) → K (a.put (some t) v) w' := by
    rintro v w' ⟨rfl, G', h1, h2, h3⟩
    have h' : ∀ k, k < w0.heap.size ∨ G' k → k < w'.heap.size := fun k hk => by
      rcases hk with hk | hk
      · exact Nat.lt_of_lt_of_le (hl k (.inl hk)) h2.size
      · exact X.lt _ _ _ h1 k hk
    refine hK _ _ ⟨⟨G', h', fun k hk => ?_, h1, ρ, S, (hI.beside hS0' h2 h3).put ht (by simp only [RdA, RdD])⟩, hbel.trans (h2.mono fun k hk => ⟨hl k (.inl hk.1), fun hg => ?_⟩), ?_, hbd⟩
    · rcases h3 k hk with h | h
      · exact hG k h
      · have := hbel.size
        exact .inr (by omega)
    · rcases hG k hg with h | h
      · exact hk.2 h
      · have := hk.1
        omega
    · have := Pins.put (v := .bool b) hp ho
      rwa [hdst] at this
  unfold Oper.wp
  rcases hstep G hH with ⟨⟨fn, hfn, hname, hbody⟩, hc⟩ | ⟨v, w', hrv, hi⟩
  · have henter : (callFunc g args).run P w = .ok (.enter g args) w := by
      simp only [callFunc, Sem.run_bind, run_program, Result.andThen_ok, hfn, hname, hbody, Bool.false_eq_true, if_false, Sem.run_pure]
    rw [hrun, henter, Oper.upon_enter]
    refine hc.mono fun e w' he => ?_
    obtain ⟨v, rfl, hi⟩ := he
    rw [hdst]
    exact fin v w' hi
  · rw [hrun, hrv]
    have := fin v w' hi
    rw [← hdst] at this
    exact this
/-- an operation by hand, that gives a value and changes nothing -/
theorem J_value {o : Oper} {t : Nat} (hdst : o.dst = some t) (ht : t < N) (ho : freeOf (pins.map (·.1)) o = true) (hJ : JInv X w0 G0 S0 N pins i st a w) {u : Value} (hrun : (execOp a.eval o).run P w = .ok (.value u) w)
    {K : Act → World → Prop} {Q : Exit → Act → World → Prop} (hK : ∀ a' w', JInv X w0 G0 S0 N ((t, u) :: pins) i (st.put t .undef) a' w' → K a' w') : o.wp P a w K Q := by
  obtain ⟨⟨G, hl, hG, hH, ρ, S, hI⟩, hbel, hp, hbd⟩ := hJ
  refine wp_value hrun ?_
  rw [hdst]
  refine hK _ _ ⟨⟨G, hl, hG, hH, ρ, S, hI.put ht (by simp only [RdA])⟩, hbel, fun n v hn => ?_, hbd⟩
  rcases List.mem_cons.1 hn with hn | hn
  · cases hn
    show (a.tmps.setIfInBounds t u)[t]? = some u
    rw [Array.getElem?_setIfInBounds_self_of_lt (by rw [hI.size]; exact ht)]
  · have := Pins.put (v := u) hp ho n v hn
    rwa [hdst] at this
/-- what is known without what is hidden -/
def whole (w0 : World) : Base := ⟨w0, fun k => k < w0.heap.size, fun _ h => h⟩
theorem J_out (hG0 : ∀ k, ¬ G0 k) (hJ : JInv X w0 G0 S0 N pins i st a w) : ∃ G ρ S, X.H i G w ∧ Inv (whole w0) S0 N ρ S st a w ∧ (∀ s o, st.seg s = some o → ¬ G (ρ s).1) ∧ (∀ b o, S b o → S0 b o ∨ ¬ G b) ∧ (∀ k, G k → w0.heap.size ≤ k) := by
  obtain ⟨⟨G, hl, hG, hH, ρ, S, hI⟩, hbel, hp, hbd⟩ := hJ
  refine ⟨G, ρ, S, hH, ⟨hI.size, hI.defers, hI.env, hI.whens, hI.nots, fun s o hs => SegOk.reb (hI.seg s o hs) fun hb => (hI.seg s o hs).lt.1 (.inl hb), hI.apart, hI.live, hI.up, fun b o h => ?_, hbel.mono fun k hk => ⟨hk, hG0 k⟩⟩, fun s o hs hg => (hI.seg s o hs).lt.1 (.inr hg), fun b o h => ?_, fun k hk => (hG k hk).resolve_left (hG0 k)⟩
  · exact (hI.new b o h).imp id fun h hb => h (.inl hb)
  · exact (hI.new b o h).imp id fun h hb => h (.inr hb)
/-- a value that is known -/
theorem J_known {o : Oper} {t : Nat} (hdst : o.dst = some t) (ht : t < N) (ho : freeOf (pins.map (·.1)) o = true) (hJ : JInv X w0 G0 S0 N pins i st a w) {x : DV} {u : Value} (hx : ∀ w S, RdD w S x u) (hrun : (execOp a.eval o).run P w = .ok (.value u) w)
    {K : Act → World → Prop} {Q : Exit → Act → World → Prop} (hK : ∀ a' w', JInv X w0 G0 S0 N pins i (st.put t (.d x)) a' w' → K a' w') : o.wp P a w K Q := by
  obtain ⟨⟨G, hl, hG, hH, ρ, S, hI⟩, hbel, hp, hbd⟩ := hJ
  refine wp_value hrun ?_
  rw [hdst]
  refine hK _ _ ⟨⟨G, hl, hG, hH, ρ, S, hI.put ht (by simp only [RdA]; exact hx _ _)⟩, hbel, ?_, hbd⟩
  have := Pins.put (v := u) hp ho
  rwa [hdst] at this
/-- what is hidden changes -/
theorem J_change {X' : Hid} {i' : Nat} (hS0 : ∀ b o, S0 b o → b < w0.heap.size ∧ ¬ G0 b) (hbd : X'.B ≤ w0.heap.size) (hJ : JInv X w0 G0 S0 N pins i st a w) {w' : World}
    (h : ∀ G, X.H i G w → (∀ k, k < w0.heap.size → ¬ G0 k → w.heap[k]? = w0.heap[k]?) → ∃ G', X'.H i' G' w' ∧ BelowP (fun k => k < w.heap.size ∧ ¬ G k) w w' ∧ ∀ k, G' k → G k ∨ w.heap.size ≤ k) : JInv X' w0 G0 S0 N pins i' st a w' := by
  obtain ⟨⟨G, hl, hG, hH, ρ, S, hI⟩, hbel, hp, _⟩ := hJ
  have hS0' : ∀ b o, S0 b o → ¬ G b := fun b o hs hg => by
    obtain ⟨h1, h2⟩ := hS0 b o hs
    rcases hG b hg with h | h
    · exact h2 h
    · omega
  obtain ⟨G', h1, h2, h3⟩ := h G hH fun k hk hg => hbel.block k ⟨hk, hg⟩
  have h' : ∀ k, k < w0.heap.size ∨ G' k → k < w'.heap.size := fun k hk => by
    rcases hk with hk | hk
    · exact Nat.lt_of_lt_of_le (hl k (.inl hk)) h2.size
    · exact X'.lt _ _ _ h1 k hk
  refine ⟨⟨G', h', fun k hk => ?_, h1, ρ, S, hI.beside hS0' h2 h3⟩, hbel.trans (h2.mono fun k hk => ⟨hl k (.inl hk.1), fun hg => ?_⟩), hp, hbd⟩
  · rcases h3 k hk with h | h
    · exact hG k h
    · have := hbel.size
      exact .inr (by omega)
  · rcases hG k hg with h | h
    · exact hk.2 h
    · have := hk.1
      omega
/-! ### the end -/
def resMono (r : DV) : Prop := ∀ (B B' : Nat → Prop) (w : World) (S : Nat → Nat → Prop) (v : Value), (∀ k, B' k → B k) → Res B w S r v → Res B' w S r v
theorem resMono_nil : resMono .nilsl := fun B B' w S v _ h => h
theorem resMono_own (el sz : Nat) (es : List (List DV)) : resMono (.sl (.own el) sz es) := fun B B' w S v hB h => by
  obtain ⟨g, hg⟩ := h
  exact ⟨g, hg.mono hB⟩
def hidOut (w0 : World) (G0 : Nat → Prop) : Base := ⟨w0, fun k => k < w0.heap.size ∧ ¬ G0 k, fun _ h => h.1⟩
theorem J_ret {fn : Func} {rvs : List RV} (hr : mapO (cRes P) fn.results.toList = some rvs) {r : DV} (h : aRet st rvs = some r) (hm : resMono r) (hJ : JInv X w0 G0 S0 N pins i st a w) :
    a.defers = [] ∧ ∃ v, (results fn a.tmps).run P w = .ok v w ∧ ∃ S', Post (hidOut w0 G0) S0 r v w S' := by
  obtain ⟨⟨G, hl, hG, hH, ρ, S, hI⟩, hbel, hp, hbd⟩ := hJ
  obtain ⟨v, S', h1, h2⟩ := aret_sound hI hr h
  refine ⟨hI.defers, v, h1, S', hbel, h2.up, fun b p hs => ?_, h2.live, hm _ _ _ _ _ (fun k hk => ?_) h2.res⟩
  · rcases h2.new b p hs with h | h
    · exact .inl h
    · exact .inr fun hb => h (.inl hb.1)
  · exact .inl hk.1
end
end Go.Proofs.Ytjejjokdbbedlaa.Vm
