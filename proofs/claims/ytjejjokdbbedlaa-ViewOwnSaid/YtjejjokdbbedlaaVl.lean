/- The document's Ready, Of, Heads: what they give. No condition. -/
import Derived.Test.YtjejjokdbbedlaaVk
namespace Go.Proofs.Ytjejjokdbbedlaa
open Go Go.Proofs Go.RowKit Vm
set_option linter.unusedVariables false
set_option linter.unusedSimpArgs false
theorem rdy11 : rdyS.ok Try.prog 11 := fun ds r hD hv => by
  obtain ⟨e, t, rfl⟩ := hD
  cases hv
  exact spec_run (lsp := lsp0) tab_ok noSp_ok 20 (0 + 12) (t11 0 e t)
theorem gd {l : List (List DV)} {i : Nat} (hi : i < l.length) : l[i]?.getD [] = l[i] := by
  rw [List.getElem?_eq_getElem hi]
  rfl
theorem hr56 {O : List (List DV)} (r : List DV) (h : O.length ≤ 1000) : decide ((O ++ [r]).length * 56 ≤ room ∧ (O ++ [r]).length ≤ room) = true := room_ok (by rw [List.length_append, List.length_singleton]; omega) (by omega)
theorem loop90 (L n : Nat) {l : List (List DV)} (hl : l.length ≤ 1000) (hz : ∀ e ∈ l, okRow z7 e = true) (t : Int) :
    LoopOk (LB tab noSp lR L (n+4) h90 c9l0) (S90 l t (.d .nilsl) 0 none none) (.ex 0, E90 (parV 26 50026 7 (l.filter (clB 31 t))) (parO1 27 7 (l.filter (clB 31 t))) (parO2 27 7 (l.filter (clB 31 t)))) := by
  rw [← outN_filter hz (clB 31 t)]
  refine loop_coll (fun v i a1 a2 => S90 l t v (i : Nat) a1 a2) E90 (s := 26) (s' := 50026) (el := 27) (sz := 7) l.length (fun i => clB 31 t (l[i]?.getD [])) (rowP l) ?_ ?_ ?_ ?_ ?_ ?_
  · intro i hi k
    rw [s90A, lt_dec hi, cond_true, look_nat hi, hz _ (List.getElem_mem hi), cond_true, look_nat hi, hz _ (List.getElem_mem hi), cond_true, wrap_succ (by omega), gd hi, rowP_at hi]
    rfl
  · intro i hi O hO k
    rw [s90B, lt_dec hi, cond_true, look_nat hi, hz _ (List.getElem_mem hi), cond_true, look_nat hi, hz _ (List.getElem_mem hi), cond_true, hr56 _ (by omega), cond_true, wrap_succ (by omega), gd hi, rowP_at hi]
    rfl
  · intro i hi O hO k
    rw [s90C, lt_dec hi, cond_true, look_nat hi, hz _ (List.getElem_mem hi), cond_true, look_nat hi, hz _ (List.getElem_mem hi), cond_true, hr56 _ (by omega), cond_true, wrap_succ (by omega), gd hi, rowP_at hi]
    rfl
  · intro k
    rw [s90A, lt_dec_self]
    rfl
  · intro O k
    rw [s90B, lt_dec_self]
    rfl
  · intro O k
    rw [s90C, lt_dec_self]
    rfl
theorem of9 : (fltS 31).ok Try.prog 9 := fun ds r hD hv => by
  obtain ⟨x, t, rfl, hx, hl, hz⟩ := hD
  cases hv
  refine EntX.gen1 hx ?_
  generalize rowsA x = l at *
  refine EntX.coll (el := 27) (spec_run (lsp := lR) tab_ok noSp_ok 20 (0 + 8) ((t9 0 l t).trans ?_))
  refine collR_run (loop90 20 (0 + 4) hl hz t) (fun h => ?_) (fun h => ?_) (fun h => ?_)
  · rw [h]
    rfl
  · cases ho : l.filter (clB 31 t) with
    | nil => exact absurd ho h
    | cons a t => rfl
  · cases ho : l.filter (clB 31 t) with
    | nil => exact absurd ho h
    | cons a t => rfl
theorem spR_ok : ∀ f s, spR f = some s → s.ok Try.prog f := spAdd_ok rdy11 (spAdd_ok of9 noSp_ok)
theorem loop100 (L n : Nat) {l : List (List DV)} (hl : l.length ≤ 1000) (hz : ∀ e ∈ l, okRow z7 e = true) (t : Int) :
    LoopOk (LB tab spR lR L (n+4) h100 c10l0) (S100 l t (.d .nilsl) 0 none none) (.ex 0, E100 (parV 25 50025 7 (l.filter (clB 29 t))) (parO1 27 7 (l.filter (clB 29 t))) (parO2 27 7 (l.filter (clB 29 t)))) := by
  rw [← outN_filter hz (clB 29 t)]
  refine loop_coll (fun v i a1 a2 => S100 l t v (i : Nat) a1 a2) E100 (s := 25) (s' := 50025) (el := 27) (sz := 7) l.length (fun i => clB 29 t (l[i]?.getD [])) (rowP l) ?_ ?_ ?_ ?_ ?_ ?_
  · intro i hi k
    rw [s100A, lt_dec hi, cond_true, look_nat hi, hz _ (List.getElem_mem hi), cond_true]
    refine (need_pos ⟨_, _, rfl⟩).trans ?_
    rw [look_nat hi, hz _ (List.getElem_mem hi), cond_true, wrap_succ (by omega), gd hi, rowP_at hi]
    rfl
  · intro i hi O hO k
    rw [s100B, lt_dec hi, cond_true, look_nat hi, hz _ (List.getElem_mem hi), cond_true]
    refine (need_pos ⟨_, _, rfl⟩).trans ?_
    rw [look_nat hi, hz _ (List.getElem_mem hi), cond_true, hr56 _ (by omega), cond_true, wrap_succ (by omega), gd hi, rowP_at hi]
    rfl
  · intro i hi O hO k
    rw [s100C, lt_dec hi, cond_true, look_nat hi, hz _ (List.getElem_mem hi), cond_true]
    refine (need_pos ⟨_, _, rfl⟩).trans ?_
    rw [look_nat hi, hz _ (List.getElem_mem hi), cond_true, hr56 _ (by omega), cond_true, wrap_succ (by omega), gd hi, rowP_at hi]
    rfl
  · intro k
    rw [s100A, lt_dec_self]
    rfl
  · intro O k
    rw [s100B, lt_dec_self]
    rfl
  · intro O k
    rw [s100C, lt_dec_self]
    rfl
theorem rdy10 : (fltS 29).ok Try.prog 10 := fun ds r hD hv => by
  obtain ⟨x, t, rfl, hx, hl, hz⟩ := hD
  cases hv
  refine EntX.gen1 hx ?_
  generalize rowsA x = l at *
  refine EntX.coll (el := 27) (spec_run (lsp := lR) tab_ok spR_ok 20 (0 + 8) ((t10 0 l t).trans ?_))
  refine collR_run (loop100 20 (0 + 4) hl hz t) (fun h => ?_) (fun h => ?_) (fun h => ?_)
  · rw [h]
    rfl
  · cases ho : l.filter (clB 29 t) with
    | nil => exact absurd ho h
    | cons a t => rfl
  · cases ho : l.filter (clB 29 t) with
    | nil => exact absurd ho h
    | cons a t => rfl
def hdS (dec : List (List DV) → List (List DV) → Nat → Bool) : FSpec where
  D ds := ∃ x y, ds = [x, y] ∧ Sl 7 x ∧ Sl 1 y ∧ (rowsA x).length ≤ 1000 ∧ (rowsA y).length ≤ 1000 ∧ (∀ e ∈ rowsA x, okRow z7 e = true) ∧ Ints (rowsA y)
  val ds := match ds with | [x, y] => some (.sla false 7 (outN (rowsA x).length (dec (rowsA y) (rowsA x)) (rowP (rowsA x)))) | _ => none
theorem round200 {l M : List (List DV)} (hl : l.length ≤ 1000) (hz : ∀ e ∈ l, okRow z7 e = true) (hM : Ints M) {i : Nat} (hi : i < l.length) (b c : Option DV) :
    (cond (decide (i ≤ l.length)) (lookK l[i]? fun e2 => cond (okRow z7 e2) (need ((fltS 31).D [.sla false 7 (List.take i l), .int .i64 (cellA e2 1).toI]) (lookK l[i]? fun e6 => cond (okRow z7 e6) (cond (decide ((cellA e6 1).toI ≥ 0)) (lookK l[i]? fun e10 => cond (okRow z7 e10) (cond (decide ((cellA e10 1).toI < (M.length : Int)))
      (lookK l[i]? fun e14 => cond (okRow z7 e14) (cond (decide ((0 : Int) ≤ (cellA e14 1).toI)) (lookK M[(cellA e14 1).toI.toNat]? fun e18 => cond (okRow z1 e18) (cond (decide (((List.filter (clB 31 (cellA e2 1).toI) (List.take i l)).length : Int) < (cellA e18 0).toI)) b c) none) none) none) c) none) c) none)) none) none) = cond (hdB M l i) b c := by
  have hzi := hz _ (List.getElem_mem hi)
  have hD : (fltS 31).D [.sla false 7 (List.take i l), .int .i64 (cellA l[i] 1).toI] := ⟨_, _, rfl, Sl.sla _ _ _, by show (List.take i l).length ≤ 1000; rw [List.length_take]; omega, fun e he => hz e (List.mem_of_mem_take he)⟩
  rw [decide_eq_true (show i ≤ l.length by omega), cond_true, look_nat hi, hzi, cond_true]
  refine (need_pos hD).trans ?_
  rw [look_nat hi, hzi, cond_true, look_nat hi, hzi, cond_true, look_nat hi, hzi, cond_true]
  unfold hdB
  rw [gd hi]
  have hf : frm l[i] = (cellA l[i] 1).toI := rfl
  rw [hf]
  cases h0 : decide ((cellA l[i] 1).toI ≥ (0 : Int)) with
  | false => rfl
  | true =>
    cases h1 : decide ((cellA l[i] 1).toI < (M.length : Int)) with
    | false => rfl
    | true =>
      have h0' := of_decide_eq_true h0
      have h1' := of_decide_eq_true h1
      have hlt : (cellA l[i] 1).toI.toNat < M.length := by omega
      simp only [cond_true]
      rw [look_nat hlt, (hM _ (List.getElem_mem hlt)).1, cond_true, gd hlt]
      rfl
theorem loopT (L n : Nat) {l M : List (List DV)} (hl : l.length ≤ 1000) (hz : ∀ e ∈ l, okRow z7 e = true) (hM : Ints M) :
    LoopOk (LB tab spR lR L (n+4) h200 c20l0) (T200 l M (.d .nilsl) 0 none none) (.ex 0, U200 (parV 58 50058 7 (outN l.length (hdB M l) (rowP l))) (parO1 27 7 (outN l.length (hdB M l) (rowP l))) (parO2 27 7 (outN l.length (hdB M l) (rowP l)))) := by
  refine loop_coll (fun v i a1 a2 => T200 l M v (i : Nat) a1 a2) U200 (s := 58) (s' := 50058) (el := 27) (sz := 7) l.length (hdB M l) (rowP l) ?_ ?_ ?_ ?_ ?_ ?_
  · intro i hi k
    rw [s200A, lt_dec hi, cond_true, wrap_succ (by omega)]
    refine (round200 hl hz hM hi _ _).trans ?_
    rw [look_nat hi, hz _ (List.getElem_mem hi), cond_true, rowP_at hi]
    rfl
  · intro i hi O hO k
    rw [s200B, lt_dec hi, cond_true, wrap_succ (by omega)]
    refine (round200 hl hz hM hi _ _).trans ?_
    rw [look_nat hi, hz _ (List.getElem_mem hi), cond_true, hr56 _ (by omega), cond_true, rowP_at hi]
    rfl
  · intro i hi O hO k
    rw [s200C, lt_dec hi, cond_true, wrap_succ (by omega)]
    refine (round200 hl hz hM hi _ _).trans ?_
    rw [look_nat hi, hz _ (List.getElem_mem hi), cond_true, hr56 _ (by omega), cond_true, rowP_at hi]
    rfl
  · intro k
    rw [s200A, lt_dec_self]
    rfl
  · intro O k
    rw [s200B, lt_dec_self]
    rfl
  · intro O k
    rw [s200C, lt_dec_self]
    rfl
theorem heads20 : (hdS hdB).ok Try.prog 20 := fun ds r hD hv => by
  obtain ⟨x, y, rfl, hx, hy, hl, _, hz, hM⟩ := hD
  cases hv
  refine EntX.gen2 hx hy ?_
  generalize rowsA x = l at *
  generalize rowsA y = M at *
  refine EntX.coll (el := 27) (spec_run (lsp := lR) tab_ok spR_ok 20 (0 + 8) ((t20 0 l M).trans ?_))
  refine collR_run (loopT 20 (0 + 4) hl hz hM) (fun h => ?_) (fun h => ?_) (fun h => ?_)
  · rw [h]
    rfl
  · cases ho : outN l.length (hdB M l) (rowP l) with
    | nil => exact absurd ho h
    | cons a t => rfl
  · cases ho : outN l.length (hdB M l) (rowP l) with
    | nil => exact absurd ho h
    | cons a t => rfl
end Go.Proofs.Ytjejjokdbbedlaa
