/- What is known of the document's row of payments, put one by one: the proof. No condition. -/
import Derived.Test.YtjejjokdbbedlaaHb
namespace Go.Proofs.Ytjejjokdbbedlaa
open Go Go.Proofs Go.RowKit Vm
set_option linter.unusedVariables false
set_option linter.unusedSimpArgs false
theorem put_ne {R : List (List DV)} {p : List DV} (h : (putE R p == 0) = false) : putL R p = R := by
  unfold putE at h
  unfold putL
  cases h1 : decide (0 ≤ fI R (idO p)) with
  | true => rfl
  | false =>
    rw [h1] at h
    cases h2 : decide (40 ≤ R.length) with
    | true => rfl
    | false =>
      rw [h2] at h
      cases h
theorem spRw_ok : ∀ f s, spRw f = some s → s.ok Try.prog f := spAdd_ok put30 noSp_ok
def vR (l : List (List DV)) : Nat → DV
  | 0 => .nilsl
  | i + 1 => .sla false 7 (rowN l (i + 1))
theorem rwK_eq {l R : List (List DV)} {v : DV} {i : Nat} (hi : i < 1000000) (hv : I7 1000 v) (hr : rowsA v = R) (hn : v = .nilsl ∨ v = .sla false 7 R) {p : List DV} (hp : okRow z7 p = true) (k : Kont) (h0 : v = .nilsl → R = []) :
    rwK l R v (i : Nat) p k = k .nrm (SR l (.d (.sla false 7 (putL R p))) ((i + 1 : Nat) : Int)) := by
  unfold rwK
  refine (need_pos ⟨_, _, rfl, hv, hp⟩).trans ?_
  rw [wrap_succ (by omega)]
  cases h : (putE R p == 0) with
  | true => rfl
  | false =>
    rcases hn with hn | hn
    · rw [h0 hn] at h
      cases h
    · rw [put_ne h, hn]
      rfl
theorem loopRw (L n : Nat) {l : List (List DV)} (hl : l.length ≤ 1000) (hz : ∀ e ∈ l, okRow z7 e = true) :
    LoopOk (LB tab spRw lRw (L+4) (n+4) h70 c7l0) (SR l (.d .nilsl) 0) (.ex 0, St.of [(3, .d (vR l l.length))] [(67, none)]) := by
  refine loop_rounds (fun i : Nat => SR l (.d (vR l i)) (i : Nat)) (fun _ => (.ex 0, St.of [(3, .d (vR l l.length))] [(67, none)])) l.length (fun i hi => .inl ⟨fun k => ?_, rfl⟩) ⟨by simp, fun k => ?_⟩ 0 (Nat.zero_le _)
  · have hzi := hz _ (List.getElem_mem hi)
    have hg : l[i]?.getD [] = l[i] := by rw [List.getElem?_eq_getElem hi]; rfl
    have e1 : (rpF l[i] == rpT0 l[i]) = true → (IntKind.i64.wrap (rpF l[i] + 1)).tmod 3 = rpT l[i] := fun h => by unfold rpT; rw [h]; rfl
    have e2 : (rpF l[i] == rpT0 l[i]) = false → rpT0 l[i] = rpT l[i] := fun h => by unfold rpT; rw [h]; rfl
    cases i with
    | zero =>
      refine (sRwn L n l 0 k).trans ?_
      rw [lt_dec hi, cond_true, look_at hi, hzi, cond_true]
      have key : ∀ t, t = rpT l[0] → rwK l [] .nilsl ((0 : Nat) : Int) (rpX ((0 : Nat) : Int) t l[0]) k = k .nrm (SR l (.d (vR l (0 + 1))) ((0 + 1 : Nat) : Int)) := fun t ht => by
        rw [rpX_eq (by omega) _ ht]
        refine (rwK_eq (R := []) (by omega) ⟨Sl.nil 7, by simp [rowsA], by simp [rowsA]⟩ rfl (.inl rfl) (rp_ok _ _) k (fun _ => rfl)).trans ?_
        rw [← hg]
        rfl
      cases h : (rpF l[0] == rpT0 l[0]) with
      | true => exact key _ (e1 h)
      | false => exact key _ (e2 h)
    | succ i =>
      have hR := rowN_RN l (i + 1)
      refine (sRw L n l (rowN l (i + 1)) (i + 1) k).trans ?_
      rw [lt_dec hi, cond_true, look_at hi, hzi, cond_true]
      have key : ∀ t, t = rpT l[i + 1] → rwK l (rowN l (i + 1)) (.sla false 7 (rowN l (i + 1))) ((i + 1 : Nat) : Int) (rpX ((i + 1 : Nat) : Int) t l[i + 1]) k = k .nrm (SR l (.d (vR l (i + 1 + 1))) ((i + 1 + 1 : Nat) : Int)) := fun t ht => by
        have hlen := hR.len
        rw [rpX_eq (by omega) _ ht]
        refine (rwK_eq (R := rowN l (i + 1)) (by omega) ⟨Sl.sla 7 false _, hR.z, by show (rowN l (i + 1)).length ≤ 1000; omega⟩ rfl (.inr rfl) (rp_ok _ _) k (fun h => by cases h)).trans ?_
        rw [← hg]
        rfl
      cases h : (rpF l[i + 1] == rpT0 l[i + 1]) with
      | true => exact key _ (e1 h)
      | false => exact key _ (e2 h)
  · cases hc : l.length with
    | zero =>
      refine (sRwn L n l 0 k).trans ?_
      rw [hc, lt_dec_self]
      rfl
    | succ c =>
      have := sRw L n l (rowN l (c + 1)) (c + 1) k
      rw [hc, lt_dec_self] at this
      exact this
/-- what is known of such a row -/
def rowS : FSpec where
  D ds := ∃ x, ds = [x] ∧ I7 1000 x
  val ds := match ds with | [x] => some (.sla false 7 (rowL (rowsA x))) | _ => none
theorem row7 : rowS.ok Try.prog 7 := fun ds r hD hv => by
  obtain ⟨x, rfl, hx, hz, hl⟩ := hD
  cases hv
  refine EntX.gen1 hx ?_
  generalize rowsA x = l at *
  have hL := loopRw 16 (0 + 4) hl hz
  have h := tRw (16 + 4) 0 l
  unfold rowL
  cases l with
  | nil => exact EntX.res (r := .nilsl) (spec_run (lsp := lRw) tab_ok spRw_ok (16 + 4) (0 + 8) (h.trans (need_pos hL))) (DLe.nil _ _) rfl
  | cons a t => exact spec_run (lsp := lRw) tab_ok spRw_ok (16 + 4) (0 + 8) (h.trans (need_pos hL))
theorem rowL_RN (l : List (List DV)) : RN l (rowL l) l.length := rowN_RN l l.length
end Go.Proofs.Ytjejjokdbbedlaa
