/- May's closure: what it does to the map. No condition. -/
import Derived.Test.YtjejjokdbbedlaaVh
namespace Go.Proofs.Ytjejjokdbbedlaa
open Go Go.Proofs Go.RowKit Vm
set_option linter.unusedVariables false
set_option linter.unusedSimpArgs false
def seen (r : List (List DV)) (i : Nat) (f : Int) : Prop := ∃ e ∈ r.take i, frm e = f
def seenB (r : List (List DV)) (i : Nat) (f : Int) : Bool := (r.take i).any fun e => frm e == f
theorem seenB_iff (r : List (List DV)) (i : Nat) (f : Int) : seenB r i f = true ↔ seen r i f := by
  unfold seenB seen
  simp
theorem seen_succ (r : List (List DV)) {i : Nat} (hi : i < r.length) : (fun k => seen r i k ∨ k = frm r[i]) = seen r (i + 1) := by
  funext k
  unfold seen
  refine propext ⟨fun h => ?_, fun h => ?_⟩
  · rw [List.take_add_one, List.getElem?_eq_getElem hi]
    rcases h with ⟨e, he, hf⟩ | rfl
    · exact ⟨e, List.mem_append.2 (.inl he), hf⟩
    · exact ⟨r[i], List.mem_append.2 (.inr (List.mem_singleton.2 rfl)), rfl⟩
  · obtain ⟨e, he, hf⟩ := h
    rw [List.take_add_one, List.getElem?_eq_getElem hi] at he
    simp only [Option.toList_some, List.mem_append, List.mem_singleton] at he
    rcases he with he | rfl
    · exact .inl ⟨e, he, hf⟩
    · exact .inr hf.symm
def plB (r : List (List DV)) (e : List DV) : Bool := (cellA e 4).toI == 3 && !r.any (hiB e)
def decM (r : List (List DV)) (i : Nat) : Bool := !seenB r i (frm (r[i]?.getD [])) || plB r (r[i]?.getD [])
theorem callC_ok : CallOk Try.prog callC := scall_ok tab_ok (spAdd_ok con25 noSp_ok) 20 (0 + 4)
theorem run23 (L n : Nat) (a0 a1 a2 a3 a4 a5 a6 : Int) {r : List (List DV)} (hl : r.length ≤ 1000) (hz : ∀ e ∈ r, okRow z7 e = true) (b : Bool) (k : Kont) :
    LB tab spC lsp0 L (n+4) q4 (xA (xB (xB (xB (xB A23))))) (Q3 (p7 a0 a1 a2 a3 a4 a5 a6) r b) k = k .nrm (Q4 (!b || plB r (p7 a0 a1 a2 a3 a4 a5 a6))) := by
  rw [t23r]
  have hp : plB r (p7 a0 a1 a2 a3 a4 a5 a6) = (a4 == 3 && !r.any (hiB (p7 a0 a1 a2 a3 a4 a5 a6))) := rfl
  rw [hp]
  cases b with
  | false =>
    cases h : (a4 == (3 : Int)) <;> rfl
  | true =>
    cases h : (a4 == (3 : Int)) with
    | true => exact need_pos ⟨_, _, _, _, _, _, _, _, rfl, Sl.sla _ _ _, show r.length ≤ 1000000 by omega, hz⟩
    | false => rfl
/-- the map of those that were there, hidden; all else as it was -/
def XM (mb : Nat) (w1 : World) (r : List (List DV)) : Hid where
  B := w1.heap.size
  H := fun i G w => (∀ k, G k ↔ k = mb) ∧ mb < w1.heap.size ∧ (∀ k, k < w1.heap.size → k ≠ mb → w.heap[k]? = w1.heap[k]?) ∧ w1.heap.size ≤ w.heap.size ∧ MapFit w mb (seen r i)
  lt i G w h k hk := by
    rw [(h.1 k).1 hk]
    exact Nat.lt_of_lt_of_le h.2.1 h.2.2.2.1
  stab i G w w' h hb hs := by
    refine ⟨h.1, h.2.1, fun k hk hne => (hb k (.inl hk)).trans (h.2.2.1 k hk hne), Nat.le_trans h.2.2.2.1 hs, ?_⟩
    obtain ⟨es, clock, h1, h2⟩ := h.2.2.2.2
    exact ⟨es, clock, (hb mb (.inl h.2.1)).trans h1, h2⟩
theorem load_fb {w : World} {fb mb : Nat} (h : w.heap[fb]? = some (.cells #[.map (some mb)] 42 (0, 0))) : (Instr.loadAt 42 (ptrV fb)).run Try.prog w = .ok (.map (some mb)) w := by
  have := run_loadVar_of (P := Try.prog) (t := 42) (g := false) (sz := 1) (by kernel_rfl) (by kernel_rfl) fb 0 w [.map (some mb)] (by simp) (fun j u hu => by
    cases j with
    | zero =>
      simp at hu
      subst hu
      simp [World.cell?, h]
    | succ j => simp at hu)
  simpa [Instr.loadAt, Instr.sureAddr] using this
theorem eval_pin {pins : List (Nat × Value)} {a : Act} {t : Nat} {v : Value} (hp : Pins pins a) (h : (t, v) ∈ pins) : a.eval (.tmp t) = v := by
  show a.tmps.getD t undef = _
  rw [Array.getD_eq_getD_getElem?, hp t v h]
  rfl
theorem eval_int {X : Hid} {w0 : World} {G0 : Nat → Prop} {S0 : Nat → Nat → Prop} {N : Nat} {pins : List (Nat × Value)} {i : Nat} {st : St} {a : Act} {w : World} (hJ : JInv X w0 G0 S0 N pins i st a w) {t : Nat} {n : Int} (h : st.env t = .d (.int .i64 n)) : a.eval (.tmp t) = .int .i64 n := by
  obtain ⟨⟨G, hl, hG, hH, ρ, S, hI⟩, -, -, -⟩ := hJ
  have := hI.env t
  rw [h] at this
  simp only [RdA, RdD] at this
  exact this
section
variable {w1 : World} {fb mb : Nat} {S0 : Nat → Nat → Prop} {u2 : Value} {r : List (List DV)}
theorem steps23 (hl : r.length ≤ 1000) (hz : ∀ e ∈ r, okRow z7 e = true) (hfb : w1.heap[fb]? = some (.cells #[.map (some mb)] 42 (0, 0))) (hne : fb ≠ mb) (hS : ∀ b o, S0 b o → b < w1.heap.size ∧ b ≠ mb) (hu : RdD w1 S0 (.rptr [.sla false 7 r] 0) u2) :
    Steps22 (XM mb w1 r) 23 #[ptrV fb, u2] r (decM r) := by
  intro i hi w G hH
  have hH0 := hH
  obtain ⟨h1, h2, h3, h4, h5⟩ := hH
  have hflt : fb < w1.heap.size := (Array.getElem?_eq_some_iff.1 hfb).1
  obtain ⟨a0, a1, a2, a3, a4, a5, a6, he⟩ := okRow_p (hz _ (List.getElem_mem hi))
  have he : r[i] = p7 a0 a1 a2 a3 a4 a5 a6 := he
  have hgi : r[i]?.getD [] = p7 a0 a1 a2 a3 a4 a5 a6 := by rw [List.getElem?_eq_getElem hi]; exact he
  refine .inl ⟨⟨Try.f23, func23, name23, none23⟩, calls_of_wp func23 body23 ?_⟩
  rw [ntmps23, shape23]
  have hTs : (#[payV r[i]] ++ #[ptrV fb, u2] ++ Array.replicate (28 - (#[payV r[i]] ++ #[ptrV fb, u2]).size) undef).size = 28 := by simp
  have hT0 : (#[payV r[i]] ++ #[ptrV fb, u2] ++ Array.replicate (28 - (#[payV r[i]] ++ #[ptrV fb, u2]).size) undef)[0]? = some (payV r[i]) := by simp [Array.getElem?_append]
  have hT1 : (#[payV r[i]] ++ #[ptrV fb, u2] ++ Array.replicate (28 - (#[payV r[i]] ++ #[ptrV fb, u2]).size) undef)[1]? = some (ptrV fb) := by simp [Array.getElem?_append]
  have hT2 : (#[payV r[i]] ++ #[ptrV fb, u2] ++ Array.replicate (28 - (#[payV r[i]] ++ #[ptrV fb, u2]).size) undef)[2]? = some u2 := by simp [Array.getElem?_append]
  generalize (#[payV r[i]] ++ #[ptrV fb, u2] ++ Array.replicate (28 - (#[payV r[i]] ++ #[ptrV fb, u2]).size) undef) = T at *
  have hk : Kept w1 w S0 S0 := ⟨fun _ _ h => h, fun b p hbp u hu => by
    rw [World.cell?] at hu ⊢
    rw [h3 b (hS b p hbp).1 (hS b p hbp).2]
    exact hu⟩
  have hu' := RdD.kept hk _ _ hu
  have hS' : ∀ b o, S0 b o → b < w.heap.size ∧ ¬ G b := fun b o h => ⟨Nat.lt_of_lt_of_le (hS b o h).1 h4, fun hg => (hS b o h).2 ((h1 b).1 hg)⟩
  have hJ : JInv (XM mb w1 r) w G S0 28 [(1, ptrV fb)] i (Q0 (p7 a0 a1 a2 a3 a4 a5 a6) r) { tmps := T, defers := [] } w := by
    have hold : ∀ k, k < w.heap.size ∨ G k → k < w.heap.size := fun k hk => by
      rcases hk with hk | hk
      · exact hk
      · exact (XM mb w1 r).lt _ _ _ hH0 k hk
    refine ⟨⟨G, hold, fun k hk => .inl hk, hH0, fun _ => (0, 0), S0, ?_⟩, BelowP.refl _ _, fun t v h => ?_, h4⟩
    · refine ⟨hTs, rfl, fun t => ?_, fun m t want v hv _ => ?_, fun m t want v hv _ => ?_, fun s o hs => ?_, fun s s' o o' hs hs' hr => ?_, fun b o h => (hS' b o h).1, fun _ _ h => h, fun _ _ h => .inl h, BelowP.refl _ _⟩
      · match t with
        | 0 =>
          show RdA w S0 _ (.d (.agg (p7 a0 a1 a2 a3 a4 a5 a6))) (T.getD 0 undef)
          rw [Array.getD_eq_getD_getElem?, hT0]
          simp only [RdA, Option.getD_some]
          rw [he]
          exact payV_rd _ _ _ _ _ _ _ _ _
        | 1 => exact (show RdA w S0 _ .undef _ by simp only [RdA])
        | 2 =>
          show RdA w S0 _ (rb r) (T.getD 2 undef)
          rw [Array.getD_eq_getD_getElem?, hT2]
          simp only [RdA, Option.getD_some]
          exact hu'
        | t + 3 => exact (show RdA w S0 _ .undef _ by simp only [RdA])
      · match m with
        | 0 => cases hv
        | 1 => cases hv
        | 2 => cases hv
        | m + 3 => cases hv
      · match m with
        | 0 => cases hv
        | 1 => cases hv
        | 2 => cases hv
        | m + 3 => cases hv
      · cases hs
      · cases hs
    · simp only [List.mem_singleton, Prod.mk.injEq] at h
      obtain ⟨rfl, rfl⟩ := h
      exact hT1
  have fbAt : ∀ {pins : List (Nat × Value)} {j : Nat} {st : St} {a : Act} {w' : World}, JInv (XM mb w1 r) w G S0 28 pins j st a w' → w'.heap[fb]? = some (.cells #[.map (some mb)] 42 (0, 0)) := fun h => by
    obtain ⟨⟨G', _, _, x, _⟩, _, _, _⟩ := h
    exact (x.2.2.1 fb hflt hne).trans hfb
  have mapAt : ∀ {pins : List (Nat × Value)} {j : Nat} {st : St} {a : Act} {w' : World}, JInv (XM mb w1 r) w G S0 28 pins j st a w' → MapFit w' mb (seen r j) := fun h => by
    obtain ⟨⟨G', _, _, x, _⟩, _, _, _⟩ := h
    exact x.2.2.2.2
  have frmi : frm r[i] = a1 := by rw [he]; rfl
  refine wp_seq (J_piece (N := 28) (R := []) (pins := [(1, ptrV fb)]) callC_ok (h := q0) rfl okM0 cM0 (fun k => pw0 20 0 a0 a1 a2 a3 a4 a5 a6 r k) hJ fun b1 v1 hJ1 => ?_)
  rw [shapeM]
  refine wp_seq (wp_region ?_)
  rw [sizeM, show List.range 5 = [0, 1, 2, 3, 4] from rfl]
  refine wpOps_one atM0 grdM0 (J_value (pins := [(1, ptrV fb)]) dstM0 (by omega) freeM0 hJ1 (u := .map (some mb)) ?_ fun b2 v2 hJ2 => ?_)
  · unfold execOp
    rw [opM0]
    simp only [eval_pin hJ1.pin (List.mem_singleton.2 rfl), Sem.run_bind, load_fb (fbAt hJ1), Result.andThen_ok, Sem.run_pure]
  refine wpOps_if atM1 (J_ins (pins := [(7, .map (some mb)), (1, ptrV fb)]) callC_ok ciM1 freeM1 hJ2 (st' := ((Q1 (p7 a0 a1 a2 a3 a4 a5 a6) r).put 7 .undef).put 8 (.ptr 3 7 0 1)) rfl fun b3 v3 hJ3 => ?_)
  refine wpOps_if atM2 (J_ins (pins := [(7, .map (some mb)), (1, ptrV fb)]) callC_ok ciM2 freeM2 hJ3 (st' := (((Q1 (p7 a0 a1 a2 a3 a4 a5 a6) r).put 7 .undef).put 8 (.ptr 3 7 0 1)).put 9 (.d (.int .i64 a1))) rfl fun b4 v4 hJ4 => ?_)
  refine wpOps_one atM3 grdM3 (J_known (pins := [(7, .map (some mb)), (1, ptrV fb)]) dstM3 (by omega) freeM3 hJ4 (x := .bool (seenB r i a1)) (u := .bool (seenB r i a1)) (fun _ _ => by simp only [RdD]) ?_ fun b5 v5 hJ5 => ?_)
  · unfold execOp
    rw [opM3]
    simp only [eval_pin hJ4.pin (List.mem_cons_self ..), eval_int hJ4 (t := 9) (n := a1) rfl, Sem.run_bind, map_look (mapAt hJ4) (seenB_iff r i a1), Result.andThen_ok, Sem.run_pure]
  refine wpOps_if atM4 (J_ins (pins := [(7, .map (some mb)), (1, ptrV fb)]) callC_ok ciM4 freeM4 hJ5 (st' := ((((Q1 (p7 a0 a1 a2 a3 a4 a5 a6) r).put 7 .undef).put 8 (.ptr 3 7 0 1)).put 9 (.d (.int .i64 a1))).put 10 (.d (.bool (seenB r i a1))) |>.put 5 (.d (.bool (seenB r i a1)))) rfl fun b6 v6 hJ6 => ?_)
  have hJ7 := (hJ6.keep q1).fewer (pins' := [(1, ptrV fb)]) (fun t v h => by simp at h; simp [h])
  rw [show (((((Q1 (p7 a0 a1 a2 a3 a4 a5 a6) r).put 7 .undef).put 8 (.ptr 3 7 0 1)).put 9 (.d (.int .i64 a1))).put 10 (.d (.bool (seenB r i a1))) |>.put 5 (.d (.bool (seenB r i a1)))).keep q1 = Q2 (p7 a0 a1 a2 a3 a4 a5 a6) r (seenB r i a1) from rfl] at hJ7
  show (Code.seq (kA (kB (kB B23))) _).wp _ _ _ _
  rw [shapeU]
  refine wp_seq (wp_region ?_)
  rw [sizeU, show List.range 4 = [0, 1, 2, 3] from rfl]
  refine wpOps_one atU0 grdU0 (J_value (pins := [(1, ptrV fb)]) dstU0 (by omega) freeU0 hJ7 (u := .map (some mb)) ?_ fun c2 x2 hK2 => ?_)
  · unfold execOp
    rw [opU0]
    simp only [eval_pin hJ7.pin (List.mem_singleton.2 rfl), Sem.run_bind, load_fb (fbAt hJ7), Result.andThen_ok, Sem.run_pure]
  refine wpOps_if atU1 (J_ins (pins := [(11, .map (some mb)), (1, ptrV fb)]) callC_ok ciU1 freeU1 hK2 (st' := ((Q2 (p7 a0 a1 a2 a3 a4 a5 a6) r (seenB r i a1)).put 11 .undef).put 12 (.ptr 3 7 0 1)) rfl fun c3 x3 hK3 => ?_)
  refine wpOps_if atU2 (J_ins (pins := [(11, .map (some mb)), (1, ptrV fb)]) callC_ok ciU2 freeU2 hK3 (st' := (((Q2 (p7 a0 a1 a2 a3 a4 a5 a6) r (seenB r i a1)).put 11 .undef).put 12 (.ptr 3 7 0 1)).put 13 (.d (.int .i64 a1))) rfl fun c4 x4 hK4 => ?_)
  obtain ⟨ob, hrun, hfit⟩ := map_upd a1 (mapAt hK4)
  refine wpOps_one atU3 grdU3 (wp_skip' (w1 := { x4 with heap := x4.heap.setIfInBounds mb ob }) ?_ ?_)
  · unfold execOp
    rw [opU3]
    simp only [eval_pin hK4.pin (List.mem_cons_self ..), eval_int hK4 (t := 13) (n := a1) rfl, Sem.run_bind, show c4.eval (.const (.bool true)) = .bool true from rfl, hrun, Result.andThen_ok, Sem.run_pure]
  rw [dstU3]
  have hK5 := J_change (X' := XM mb w1 r) (i' := i + 1) hS' h4 hK4 (w' := { x4 with heap := x4.heap.setIfInBounds mb ob }) fun G' hx _ => by
    obtain ⟨y1, y2, y3, y4, y5⟩ := hx
    refine ⟨G', ⟨y1, y2, fun k hk hne' => ?_, ?_, ?_⟩, ⟨rfl, rfl, rfl, ?_, fun k hk => ?_⟩, fun k hk => .inl hk⟩
    · show (x4.heap.setIfInBounds mb ob)[k]? = _
      rw [Array.getElem?_setIfInBounds_ne (Ne.symm hne')]
      exact y3 k hk hne'
    · show w1.heap.size ≤ (x4.heap.setIfInBounds mb ob).size
      rw [Array.size_setIfInBounds]
      exact y4
    · rw [← seen_succ r hi, frmi]
      exact hfit
    · show x4.heap.size ≤ (x4.heap.setIfInBounds mb ob).size
      rw [Array.size_setIfInBounds]
      exact Nat.le_refl _
    · show (x4.heap.setIfInBounds mb ob)[k]? = _
      rw [Array.getElem?_setIfInBounds_ne (fun h => hk.2 ((y1 k).2 h.symm))]
  have hK6 := (hK5.keep q1).fewer (pins' := [(1, ptrV fb)]) (fun t v h => by simp at h; simp [h])
  rw [show ((((Q2 (p7 a0 a1 a2 a3 a4 a5 a6) r (seenB r i a1)).put 11 .undef).put 12 (.ptr 3 7 0 1)).put 13 (.d (.int .i64 a1))).keep q1 = Q2 (p7 a0 a1 a2 a3 a4 a5 a6) r (seenB r i a1) from rfl] at hK6
  show (Code.seq (kA (kB (kB (kB B23)))) _).wp _ _ _ _
  refine wp_seq (J_piece (N := 28) (R := []) (pins := [(1, ptrV fb)]) callC_ok (h := q3) rfl okM3 cM3 (fun k => pw3 20 0 a0 a1 a2 a3 a4 a5 a6 r (seenB r i a1) k) hK6 fun d1 z1 hL1 => ?_)
  refine wp_seq (J_piece (N := 28) (R := []) (pins := [(1, ptrV fb)]) callC_ok (h := q4) rfl okM4 cM4 (fun k => run23 20 0 a0 a1 a2 a3 a4 a5 a6 hl hz (seenB r i a1) k) hL1 fun d2 z2 hL2 => wp_ret ?_)
  obtain ⟨r1, v, r2, S', r3⟩ := J_ret res23 (show aRet (Q4 (!seenB r i a1 || plB r (p7 a0 a1 a2 a3 a4 a5 a6))) [.t 4] = some (.bool (!seenB r i a1 || plB r (p7 a0 a1 a2 a3 a4 a5 a6))) from rfl) (fun B B' w S v _ h => h) hL2
  refine ⟨r1, v, r2, v, rfl, ?_⟩
  have hv : v = .bool (decM r i) := by
    unfold decM
    rw [hgi]
    have h := r3.res
    simp only [Res, RdD] at h
    exact h
  obtain ⟨⟨G', hl', hG', hx, hI⟩, hbel, hpin, _⟩ := hL2
  exact ⟨hv, G', hx, hbel, hG'⟩
end
end Go.Proofs.Ytjejjokdbbedlaa
