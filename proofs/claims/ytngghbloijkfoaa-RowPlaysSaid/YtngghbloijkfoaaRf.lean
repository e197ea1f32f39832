/- What is known of the functions on rows of payments, by their runs: one less; and how a row grows until it is full. No condition. -/
import Derived.Test.YtngghbloijkfoaaRe
namespace Go.Proofs.Ytngghbloijkfoaa
open Go Go.Proofs Go.RowKit Vm
set_option linter.unusedVariables false
set_option linter.unusedSimpArgs false
theorem del43S : delS.ok Try.prog 43 := fun ds r hD hv => by
  obtain ⟨es, i, rfl, hi⟩ := hD
  cases hv
  exact del43 hi rfl
theorem spD7_ok : ∀ f s, spD7 f = some s → s.ok Try.prog f := spAdd_ok fnd34 (spAdd_ok del43S noSp_ok)
theorem fI_any : ∀ (es : List (List DV)) (id : Int), decide (0 ≤ fI es id) = es.any fun e => idO e == id
  | [], _ => rfl
  | e :: l, id => by
    have ih := fI_any l id
    have hfe : fI (e :: l) id = cond (idO e == id) 0 (cond (decide (fI l id < 0)) (-1) (fI l id + 1)) := rfl
    rw [List.any_cons, ← ih, hfe]
    cases idO e == id with
    | true => rfl
    | false =>
      by_cases h : fI l id < 0
      · rw [decide_eq_true h, decide_eq_false (show ¬ 0 ≤ fI l id by omega)]; rfl
      · rw [decide_eq_false h, decide_eq_true (show 0 ≤ fI l id by omega), cond_false, cond_false, decide_eq_true (show 0 ≤ fI l id + 1 by omega)]; rfl
theorem fI_at : ∀ (es : List (List DV)) (id : Int), 0 ≤ fI es id → ∃ h : (fI es id).toNat < es.length, idO es[(fI es id).toNat] = id
  | [], id, h => by simp [fI] at h
  | e :: l, id, h => by
    have hfe : fI (e :: l) id = cond (idO e == id) 0 (cond (decide (fI l id < 0)) (-1) (fI l id + 1)) := rfl
    cases hc : idO e == id with
    | true =>
      have h0 : fI (e :: l) id = 0 := by rw [hfe, hc]; rfl
      simp only [h0]
      exact ⟨by simp, by simpa using hc⟩
    | false =>
      rw [hc] at hfe
      by_cases hl : fI l id < 0
      · rw [decide_eq_true hl] at hfe
        rw [hfe] at h
        simp at h
      · obtain ⟨h1, h2⟩ := fI_at l id (by omega)
        rw [decide_eq_false hl] at hfe
        have e1 : (fI (e :: l) id).toNat = (fI l id).toNat + 1 := by
          rw [hfe, cond_false, cond_false]
          omega
        simp only [e1]
        exact ⟨by simpa using h1, by simpa using h2⟩
theorem resD {f : FuncId} {ds : List DV} {x p : DV} {sz : Nat} {es : List (List DV)} {e : Int} (hx : DLe (ro1 x) (.sla false sz es)) (hp : ro1 p = p) (h : EntX Try.prog f ds (.tuple [x, p, .int .i64 e])) : EntX Try.prog f ds (.tuple [.sla false sz es, p, .int .i64 e]) :=
  h.res (DLe.tuple (LLe.cons hx (LLe.cons (by rw [hp]; exact DLe.refl _) (LLe.refl _)))) (by simp only [roTop, List.map_cons, List.map_nil, hp]; rfl)
theorem drop23 : drpS.ok Try.prog 23 := fun ds r hD hv => by
  obtain ⟨x, id, rfl, hx, hz, hl⟩ := hD
  cases hv
  refine EntX.gen1 hx (EntX.sla (fun he => ?_) ?_)
  · rw [he]
    exact resD (x := .nilsl) (DLe.nil _ _) rfl (spec_run (lsp := lsp0) tab_ok spD7_ok 20 (0 + 8) ((t23n 20 0 id).trans (need_pos ⟨_, _, rfl, Sl.nil _, by simp [rowsA], by simp [rowsA]⟩)))
  · generalize rowsA x = es at *
    have h23 := (t23 20 0 es id).trans (need_pos ⟨_, _, rfl, Sl.sl _ _ _, hz, hl⟩)
    unfold dropL dropP dropE
    by_cases h1 : fI es id < 0
    · rw [decide_eq_true h1] at h23 ⊢
      exact resD (x := .sl .ro 7 es) (DLe.sl _ _ _) rfl (spec_run (lsp := lsp0) tab_ok spD7_ok 20 (0 + 8) h23)
    · rw [decide_eq_false h1] at h23 ⊢
      obtain ⟨hi, _⟩ := fI_at es id (by omega)
      have hlen := (fI_lt es id).1
      have hcast : (((fI es id).toNat : Nat) : Int) = fI es id := by omega
      have hw : IntKind.i64.wrap (fI es id + 1) = fI es id + 1 := wrap_fits (by omega) (by omega)
      have hzi := hz _ (List.getElem_mem hi)
      have hk : delS.D [.mv 38 7 es, .int .i64 (fI es id), .int .i64 (fI es id + 1)] := ⟨es, (fI es id).toNat, by rw [hcast], hi⟩
      rw [cond_false, decide_eq_false (show ¬ es.length = 0 by omega), cond_false, all_one7 hz, cond_true, room7 (by omega), cond_true, hw, need_pos hk, decide_eq_true (show 0 ≤ fI es id by omega), cond_true, look_nat hi, hzi, cond_true] at h23
      simp only [cond_false, List.getElem?_eq_getElem hi, Option.getD_some]
      exact resD (x := .sl (.own 38) 7 (delB es (fI es id).toNat)) (DLe.sl _ _ _) rfl (spec_run (lsp := lsp0) tab_ok spD7_ok 20 (0 + 8) h23)
theorem spF7_ok : ∀ f s, spF7 f = some s → s.ok Try.prog f := spAdd_ok put22 (spAdd_ok drop23 (spAdd_ok known21 noSp_ok))
def pI (i : Nat) : List DV := [.int .i64 (i : Int), .int .i64 ((i : Int).tmod 4), .int .i64 0, .int .i64 0, .int .i64 (IntKind.i64.wrap (1 + (i : Int).tmod 3)), .int .i64 0, .int .i64 0]
def rl : Nat → List (List DV)
  | 0 => []
  | n + 1 => putL (rl n) (pI (n + 1))
theorem bh_le (es : List (List DV)) (p : List DV) : bhP es p ≤ es.length := (tw_spec (fun e => ahB e p) es).1
theorem put_any (es : List (List DV)) (p : List DV) (id : Int) : ((es.take (bhP es p) ++ (p :: es.drop (bhP es p))).any fun e => idO e == id) = ((es.any fun e => idO e == id) || (idO p == id)) := by
  have h : (es.any fun e => idO e == id) = ((es.take (bhP es p)).any (fun e => idO e == id) || (es.drop (bhP es p)).any fun e => idO e == id) := by
    rw [← List.any_append, List.take_append_drop]
  rw [h, List.any_append, List.any_cons]
  cases (es.take (bhP es p)).any (fun e => idO e == id) <;> cases (es.drop (bhP es p)).any (fun e => idO e == id) <;> cases idO p == id <;> rfl
theorem rl_spec : ∀ n, n ≤ 40 → (∀ e ∈ rl n, okRow z7 e = true) ∧ (rl n).length = n ∧ ∀ id, ((rl n).any fun e => idO e == id) = decide (1 ≤ id ∧ id ≤ (n : Int))
  | 0, _ => ⟨by simp [rl], rfl, fun id => by
    rw [decide_eq_false (by omega)]
    rfl⟩
  | n + 1, h => by
    obtain ⟨h1, h2, h3⟩ := rl_spec n (by omega)
    have hid : idO (pI (n + 1)) = ((n + 1 : Nat) : Int) := rfl
    have hno : decide (0 ≤ fI (rl n) (idO (pI (n + 1)))) = false := by
      rw [fI_any, h3, hid]
      exact decide_eq_false (by omega)
    have e : rl (n + 1) = (rl n).take (bhP (rl n) (pI (n + 1))) ++ (pI (n + 1) :: (rl n).drop (bhP (rl n) (pI (n + 1)))) := by
      show putL (rl n) (pI (n + 1)) = _
      unfold putL
      rw [hno, h2, decide_eq_false (show ¬ 40 ≤ n by omega)]
      rfl
    rw [e]
    refine ⟨fun x hx => ?_, ?_, fun id => ?_⟩
    · rcases List.mem_append.1 hx with h | h
      · exact h1 x (List.mem_of_mem_take h)
      · rcases List.mem_cons.1 h with rfl | h
        · rfl
        · exact h1 x (List.mem_of_mem_drop h)
    · have := bh_le (rl n) (pI (n + 1))
      rw [List.length_append, List.length_cons, List.length_take, List.length_drop]
      omega
    · rw [put_any, h3, hid]
      by_cases hc : ((n + 1 : Nat) : Int) = id
      · rw [show (((n + 1 : Nat) : Int) == id) = true from beq_iff_eq.2 hc, Bool.or_true, decide_eq_true (by omega)]
      · rw [show (((n + 1 : Nat) : Int) == id) = false from beq_eq_false_iff_ne.2 hc, Bool.or_false]
        exact decide_eq_decide.2 (by omega)
theorem rl_put (i : Nat) (hi : 1 ≤ i) (hm : i ≤ 60) : putL (rl (min (i - 1) 40)) (pI i) = rl (min i 40) ∧ putE (rl (min (i - 1) 40)) (pI i) = cond (decide (i ≤ 40)) 0 3 := by
  obtain ⟨h1, h2, h3⟩ := rl_spec (min (i - 1) 40) (by omega)
  have hid : idO (pI i) = (i : Int) := rfl
  have hno : decide (0 ≤ fI (rl (min (i - 1) 40)) (idO (pI i))) = false := by
    rw [fI_any, h3, hid]
    exact decide_eq_false (by omega)
  by_cases h : i ≤ 40
  · have e1 : min (i - 1) 40 = i - 1 := by omega
    have e2 : min i 40 = i - 1 + 1 := by omega
    rw [e1] at h1 h2 h3 hno
    rw [e2, e1]
    refine ⟨by rw [show rl (i - 1 + 1) = putL (rl (i - 1)) (pI (i - 1 + 1)) from rfl, show i - 1 + 1 = i by omega], ?_⟩
    unfold putE
    rw [hno, h2, decide_eq_false (show ¬ 40 ≤ i - 1 by omega), decide_eq_true h]
    rfl
  · have e1 : min (i - 1) 40 = 40 := by omega
    have e2 : min i 40 = 40 := by omega
    rw [e1] at h1 h2 h3 hno
    rw [e2, e1]
    unfold putE putL
    rw [hno, h2, decide_eq_true (Nat.le_refl 40), decide_eq_false h]
    simp only [cond_false, cond_true, and_self]
theorem loop70 (L n : Nat) (m : Int) (h0 : 0 ≤ m) (h20 : m ≤ 20) :
    LoopOk (LB tab spF7 (lf (rl 40)) L (n+4) h70 c7l0) (S70 m .nilsl 1) (.ex 0, St.of [(3, .d (.sla false 7 (rl 40)))] [(35, none)]) := by
  have hw : IntKind.i64.wrap (40 + m) = 40 + m := wrap_fits (by omega) (by omega)
  refine loop_meas (fun s : DV × Nat => S70 m s.1 (s.2 : Nat)) (fun s => 300 - s.2) (fun s => 1 ≤ s.2 ∧ (s.2 : Int) ≤ 41 + m ∧ ((s.1 = .nilsl ∧ s.2 = 1) ∨ (s.1 = .sla false 7 (rl (min (s.2 - 1) 40)) ∧ 1 < s.2))) (fun _ => (.ex 0, St.of [(3, .d (.sla false 7 (rl 40)))] [(35, none)]))
    (fun s hs => ?_) (.nilsl, 1) ⟨by simp, by simp only; omega, .inl ⟨rfl, rfl⟩⟩
  obtain ⟨x, i⟩ := s
  simp only at hs ⊢
  obtain ⟨hi1, hi2, hx⟩ := hs
  by_cases hc : (i : Int) ≤ 40 + m
  · left
    have ws := wrap_succ (i := i) (by omega)
    obtain ⟨a1, a2⟩ := rl_put i hi1 (by omega)
    obtain ⟨r1, r2, r3⟩ := rl_spec (min (i - 1) 40) (by omega)
    have e3 : decide ((i : Int) ≤ 40) = decide (i ≤ 40) := decide_eq_decide.2 (by omega)
    refine ⟨(.sla false 7 (rl (min i 40)), i + 1), ⟨by simp only; omega, by simp only; omega, .inr ⟨by simp only [Nat.add_sub_cancel], by simp only; omega⟩⟩, by simp only; omega, trivial, fun k => ?_⟩
    rcases hx with ⟨rfl, rfl⟩ | ⟨rfl, _⟩
    · have := s70n (rl 40) L n m k
      rw [hw, decide_eq_true (show (1 : Int) ≤ 40 + m by omega), cond_true] at this
      refine this.trans ((need_pos ⟨_, _, rfl, ⟨Sl.nil _, by simp [rowsA], by simp [rowsA]⟩, rfl⟩).trans rfl)
    · have nP : ∀ y, need (putS.D [.sla false 7 (rl (min (i - 1) 40)), .agg (pI i)]) y = y := fun y => need_pos ⟨_, _, rfl, ⟨Sl.sla _ _ _, r1, by rw [rowsA_sla, r2]; omega⟩, rfl⟩
      rw [s70, hw, decide_eq_true hc, cond_true]
      refine (nP _).trans ?_
      change cond (cond (!(putE (rl (min (i - 1) 40)) (pI i) == 0) == decide ((i : Int) ≤ 40)) true (cond (putE (rl (min (i - 1) 40)) (pI i) != 0) (putE (rl (min (i - 1) 40)) (pI i) != 3) false)) (k .ret (St.of [(2, .d (.bool false))] [(91, none)])) (k .nrm (St.of [(0, .d (.int .i64 m)), (3, .d (.sla false 7 (putL (rl (min (i - 1) 40)) (pI i)))), (4, .d (.int .i64 (IntKind.i64.wrap ((i : Int) + 1))))] [(35, none)])) = _
      rw [a1, a2, ws, e3]
      cases decide (i ≤ 40) <;> rfl
  · right
    refine ⟨by simp, fun k => ?_⟩
    rcases hx with ⟨rfl, rfl⟩ | ⟨rfl, _⟩
    · exact absurd hc (by omega)
    · rw [s70, hw, decide_eq_false hc, cond_false, show min (i - 1) 40 = 40 by omega]
end Go.Proofs.Ytngghbloijkfoaa
