/- Pieces of a code, run by the pure machine beside what is hidden. No condition. -/
import Derived.Test.YtjejjokdbbedlaaVmU
namespace Go.Proofs.Ytjejjokdbbedlaa.Vm
open Go Go.RowKit
set_option linter.unusedVariables false
set_option linter.unusedSimpArgs false
set_option linter.unusedSectionVars false
def kA : Code → Code | .seq a _ => a | c => c
def kB : Code → Code | .seq _ b => b | c => c
def kBlk : Code → Code | .block _ b => b | c => c
def kLoop : Code → Code | .loop b => b | c => c
def kThen : Code → Code | .cond _ a _ => a | c => c
def kElse : Code → Code | .cond _ _ b => b | c => c
def kOps : Code → Array Oper | .region _ ops _ => ops | _ => #[]
def xA : AC → AC | .seq a _ => a | c => c
def xB : AC → AC | .seq _ b => b | c => c
def xBlk : AC → AC | .block _ b => b | c => c
def xOps : AC → List AIns | .reg l => l | .dreg l _ => l | _ => []
section
variable {P : Program} {N : Nat} {R : List Nat} {tab : FuncId → Option AFn} {sp : FuncId → Option FSpec} {lsp : Nat → Option LSpec} {L n : Nat}
  {X : Hid} {w0 : World} {G0 : Nat → Prop} {S0 : Nat → Nat → Prop} {pins : List (Nat × Value)} {i : Nat} {st st' : St} {a : Act} {w : World}
theorem body_of {h : Hint} {ac : AC} {e : Ex} (hx : ∀ k, LB tab sp lsp L n h ac st k = k e st') : bodyOf h (exec (scall tab sp lsp L n) (srun lsp) L ac) st = some (e, st') := by
  have hK : ∀ k, bodyK h (execK (scall tab sp lsp L n) (scallK tab sp lsp L n) (srunK lsp) L ac) st k = fin k (bodyOf h (exec (scall tab sp lsp L n) (srun lsp) L ac) st) := fun k => bodyK_eq (fun st k => execK_eq (scallK_ok tab sp lsp L n) (srunK_ok lsp) L ac st k) st k
  have h1 := hx fun e1 s1 => @ite _ ((e1, s1) = (e, st')) (Classical.propDecidable _) (some (.bool true)) none
  unfold LB at h1
  rw [hK, if_pos rfl] at h1
  cases hb : bodyOf h (exec (scall tab sp lsp L n) (srun lsp) L ac) st with
  | none => simp [hb, fin] at h1
  | some r =>
    obtain ⟨e1, s1⟩ := r
    simp only [hb, fin] at h1
    split at h1
    · rename_i hr
      rw [hr]
    · cases h1
/-- a piece of the code, what is read behind it told by a hint -/
theorem J_piece (hcall : CallOk P (scall tab sp lsp L n)) {h : Hint} (hfr : h.fr = []) {c : Code} {ac : AC} {e : Ex} (ho : okPins (pins.map (·.1)) c = true) (hc : cCode P R N c = some ac.erase) (hx : ∀ k, LB tab sp lsp L n h ac st k = k e st')
    (hJ : JInv X w0 G0 S0 N pins i st a w) {Q : Exit → Act → World → Prop} (hQ : ∀ a' w', JInv X w0 G0 S0 N pins i st' a' w' → Q e.to a' w') : c.wp P Q a w := by
  have hb := body_of hx
  unfold bodyOf at hb
  split at hb
  · rename_i st2 he
    simp only [hfr, St.away, Option.some.injEq, Prod.mk.injEq] at hb
    obtain ⟨rfl, rfl⟩ := hb
    exact J_code hcall c ac ho hc st st2 _ he a w hJ Q fun a' w' hJ' => hQ a' w' (hJ'.keep h)
  · exact J_code hcall c ac ho hc st st' _ hb a w hJ Q hQ
/-- where a hidden run begins: its data, one by one -/
theorem J_init {ds : List DV} {vs : List Value} (hl : vs.length ≤ N) (hds : ∀ (t : Nat) (x : DV), ds[t]? = some x → ∃ u, vs[t]? = some u ∧ RdD w0 S0 x u) (hS : ∀ b o, S0 b o → b < w0.heap.size) (hH : X.H 0 G0 w0) (hbd : X.B ≤ w0.heap.size) (hp : Pins pins { tmps := vs.toArray ++ Array.replicate (N - vs.toArray.size) undef, defers := [] }) :
    JInv X w0 G0 S0 N pins 0 (St.of ((List.range ds.length).map fun t => (t, .d (ds.getD t .nilptr))) []) { tmps := vs.toArray ++ Array.replicate (N - vs.toArray.size) undef, defers := [] } w0 := by
  have hk : ∀ k, k < w0.heap.size ∨ G0 k → k < w0.heap.size := fun k hk => by
    rcases hk with hk | hk
    · exact hk
    · exact X.lt _ _ _ hH k hk
  have henv : ∀ t, (St.of ((List.range ds.length).map fun t => (t, AV.d (ds.getD t .nilptr))) []).env t = if t < ds.length then AV.d (ds.getD t .nilptr) else .undef := by
    intro t
    show pickAV ((List.range ds.length).map fun t => (t, AV.d (ds.getD t .nilptr))) t = _
    have gen : ∀ l : List Nat, pickAV (l.map fun t => (t, AV.d (ds.getD t .nilptr))) t = if t ∈ l then AV.d (ds.getD t .nilptr) else .undef := by
      intro l
      induction l with
      | nil => rfl
      | cons m l ih =>
        simp only [List.map_cons, pickAV, ih, List.mem_cons]
        by_cases hm : t = m
        · subst hm
          simp
        · rw [show Nat.beq t m = false from Bool.eq_false_iff.2 fun h => hm (Nat.eq_of_beq_eq_true h)]
          simp [hm]
    rw [gen]
    simp only [List.mem_range]
  refine ⟨⟨G0, hk, fun k hg => .inl hg, hH, fun _ => (0, 0), S0, by simp; omega, rfl, fun t => ?_, fun m t want v he _ => ?_, fun m t want v he _ => ?_, fun s o h => ?_, fun s s' o o' h _ _ => ?_, hS, fun _ _ h => h, fun _ _ h => .inl h, BelowP.refl _ _⟩, BelowP.refl _ _, hp, hbd⟩
  · rw [henv]
    split
    · rename_i ht
      have hx : ds[t]? = some (ds.getD t .nilptr) := by
        rw [List.getD_eq_getElem?_getD, List.getElem?_eq_getElem ht]
        rfl
      obtain ⟨u, hu, hr⟩ := hds t _ hx
      have ht' : t < vs.length := (List.getElem?_eq_some_iff.1 hu).1
      have : (vs.toArray ++ Array.replicate (N - vs.toArray.size) undef)[t]? = some u := by
        rw [Array.getElem?_append_left (by simpa using ht')]
        simpa using hu
      rw [Array.getD_eq_getD_getElem?, this]
      simp only [RdA]
      exact hr
    · simp only [RdA]
  · rw [henv] at he
    split at he <;> cases he
  · rw [henv] at he
    split at he <;> cases he
  · simp [St.of, pickOb] at h
  · simp [St.of, pickOb] at h
end
end Go.Proofs.Ytjejjokdbbedlaa.Vm
