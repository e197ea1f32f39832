/- The document's May: what it gives; May is it, where no two are of one ID. No condition. -/
import Derived.Test.YtjejjokdbbedlaaVo
import Derived.Test.YtjejjokdbbedlaaVj
namespace Go.Proofs.Ytjejjokdbbedlaa
open Go Go.Proofs Go.RowKit Vm
set_option linter.unusedVariables false
set_option linter.unusedSimpArgs false
theorem spM_ok : ∀ f s, spM f = some s → s.ok Try.prog f := spAdd_ok rdy10 (spAdd_ok of9 noSp_ok)
theorem loop191 {L n : Nat} {r m : List (List DV)} {i : Int} {v : AV} {o1 o2 : Option Ob} (hl : m.length ≤ 1000) (hz : ∀ e ∈ m, okRow z7 e = true)
    (hs : ∀ (b : Bool) (j : Nat) (k : Kont), LB tab spM lM L (n+4) h191 c19l1 (T191 r m v i b j o1 o2) k = cond (decide ((j : Int) < (m.length : Int))) (cond b (lookK m[j]? fun e2 => cond (okRow z7 e2) (k .nrm (T191 r m v i ((cellA e2 4).toI == 3) (IntKind.i64.wrap ((j : Int) + 1)) o1 o2)) none) (k .nrm (T191 r m v i false (IntKind.i64.wrap ((j : Int) + 1)) o1 o2))) (k (.ex 2) (U191 r m v i b o1 o2))) :
    LoopOk (LB tab spM lM L (n+4) h191 c19l1) (T191 r m v i true 0 o1 o2) (.ex 2, U191 r m v i (m.all nrB) o1 o2) := by
  refine loop_rounds (fun j : Nat => T191 r m v i ((m.take j).all nrB) (j : Nat) o1 o2) (fun _ => (.ex 2, U191 r m v i (m.all nrB) o1 o2)) m.length (fun j hj => .inl ⟨fun k => ?_, rfl⟩) ⟨by simp, fun k => ?_⟩ 0 (Nat.zero_le _)
  · rw [hs, lt_dec hj, cond_true, wrap_succ (by omega)]
    have : (m.take (j + 1)).all nrB = ((m.take j).all nrB && nrB m[j]) := by
      rw [List.take_add_one, List.getElem?_eq_getElem hj, Option.toList_some, List.all_append, List.all_cons, List.all_nil, Bool.and_true]
    rw [this]
    cases (m.take j).all nrB with
    | true =>
      rw [cond_true, look_nat hj, hz _ (List.getElem_mem hj), cond_true, Bool.true_and]
      rfl
    | false => rfl
  · rw [hs, lt_dec_self, cond_false, List.take_length]
theorem mem_of {r : List (List DV)} {i : Nat} (hi : i < r.length) : r[i] ∈ r.filter (clB 31 (cellA r[i] 1).toI) := by
  refine List.mem_filter.2 ⟨List.getElem_mem hi, ?_⟩
  show (frm r[i] == (cellA r[i] 1).toI) = true
  exact beq_self_eq_true _
theorem tail190 {r : List (List DV)} (hz : ∀ e ∈ r, okRow z7 e = true) {i : Nat} (hi : i < r.length) (b c : Option DV) :
    (lookK (r.filter (clB 31 (cellA r[i] 1).toI))[0]? fun e6 => cond (okRow z7 e6) (lookK r[i]? fun e9 => cond (okRow z7 e9) (cond (bif eqP e6 e9 then true else (r.filter (clB 31 (cellA r[i] 1).toI)).all nrB) b c) none) none) = cond (decR r i) b c := by
  have hmem := mem_of hi
  unfold decR ofR
  rw [gd hi]
  have hf : frm r[i] = (cellA r[i] 1).toI := rfl
  rw [hf]
  have hzm : ∀ e ∈ r.filter (clB 31 (cellA r[i] 1).toI), okRow z7 e = true := fun e he => hz e (List.mem_filter.1 he).1
  generalize r.filter (clB 31 (cellA r[i] 1).toI) = m at *
  have h0 : 0 < m.length := List.length_pos_of_mem hmem
  rw [look_nat h0, hzm _ (List.getElem_mem h0), cond_true, look_nat hi, hz _ (List.getElem_mem hi), cond_true, gd h0]
theorem loop190 (L n : Nat) {r : List (List DV)} (hl : r.length ≤ 1000) (hz : ∀ e ∈ r, okRow z7 e = true) :
    LoopOk (LB tab spM lM L (n+4) h190 c19l0) (T190 r (.d .nilsl) 0 none none) (.ex 0, U190 (parV 59 50059 7 (outN r.length (decR r) (rowP r))) (parO1 27 7 (outN r.length (decR r) (rowP r))) (parO2 27 7 (outN r.length (decR r) (rowP r)))) := by
  have hD : ∀ i (hi : i < r.length), (fltS 31).D [.sla false 7 r, .int .i64 (cellA r[i] 1).toI] := fun i hi => ⟨_, _, rfl, Sl.sla _ _ _, hl, hz⟩
  have hlm : ∀ f : List DV → Bool, (r.filter f).length ≤ 1000 := fun f => Nat.le_trans (List.length_filter_le _ _) hl
  have hzm : ∀ f : List DV → Bool, ∀ e ∈ r.filter f, okRow z7 e = true := fun f e he => hz e (List.mem_filter.1 he).1
  refine loop_coll (fun v i a1 a2 => T190 r v (i : Nat) a1 a2) U190 (s := 59) (s' := 50059) (el := 27) (sz := 7) r.length (decR r) (rowP r) ?_ ?_ ?_ ?_ ?_ ?_
  · intro i hi k
    rw [s190A, lt_dec hi, cond_true, look_nat hi, hz _ (List.getElem_mem hi), cond_true, wrap_succ (by omega)]
    refine (need_pos (hD i hi)).trans ((need_pos (loop191 (n := n) (hlm _) (hzm _) fun b j k => s191A L n r _ i b j k)).trans ((tail190 hz hi _ _).trans ?_))
    rw [look_nat hi, hz _ (List.getElem_mem hi), cond_true, rowP_at hi]
    rfl
  · intro i hi O hO k
    rw [s190B, lt_dec hi, cond_true, look_nat hi, hz _ (List.getElem_mem hi), cond_true, wrap_succ (by omega)]
    refine (need_pos (hD i hi)).trans ((need_pos (loop191 (n := n) (hlm _) (hzm _) fun b j k => s191B L n r _ O i b j k)).trans ((tail190 hz hi _ _).trans ?_))
    rw [look_nat hi, hz _ (List.getElem_mem hi), cond_true, hr56 _ (by omega), cond_true, rowP_at hi]
    rfl
  · intro i hi O hO k
    rw [s190C, lt_dec hi, cond_true, look_nat hi, hz _ (List.getElem_mem hi), cond_true, wrap_succ (by omega)]
    refine (need_pos (hD i hi)).trans ((need_pos (loop191 (n := n) (hlm _) (hzm _) fun b j k => s191C L n r _ O i b j k)).trans ((tail190 hz hi _ _).trans ?_))
    rw [look_nat hi, hz _ (List.getElem_mem hi), cond_true, hr56 _ (by omega), cond_true, rowP_at hi]
    rfl
  · intro k
    rw [s190A, lt_dec_self]
    rfl
  · intro O k
    rw [s190B, lt_dec_self]
    rfl
  · intro O k
    rw [s190C, lt_dec_self]
    rfl
def mayS (dec : List (List DV) → Nat → Bool) : FSpec where
  D ds := ∃ x t, ds = [x, .int .i64 t] ∧ Sl 7 x ∧ (rowsA x).length ≤ 1000 ∧ ∀ e ∈ rowsA x, okRow z7 e = true
  val ds := match ds with | [x, .int _ t] => some (.sla false 7 (outN ((rowsA x).filter (clB 29 t)).length (dec ((rowsA x).filter (clB 29 t))) (rowP ((rowsA x).filter (clB 29 t))))) | _ => none
theorem may19 : (mayS decR).ok Try.prog 19 := fun ds r hD hv => by
  obtain ⟨x, t, rfl, hx, hl, hz⟩ := hD
  cases hv
  refine EntX.gen1 hx ?_
  generalize rowsA x = l at *
  have hzR : ∀ e ∈ l.filter (clB 29 t), okRow z7 e = true := fun e he => hz e (List.mem_filter.1 he).1
  have hlR : (l.filter (clB 29 t)).length ≤ 1000 := Nat.le_trans (List.length_filter_le _ _) hl
  refine EntX.coll (el := 27) (spec_run (lsp := lM) tab_ok spM_ok 20 (0 + 8) ((t19 0 l t).trans ?_))
  refine (need_pos ⟨_, _, rfl, Sl.sla _ _ _, hl, hz⟩).trans ?_
  refine collR_run (loop190 20 (0 + 4) hlR hzR) (fun h => ?_) (fun h => ?_) (fun h => ?_)
  · rw [h]
    rfl
  · cases ho : outN (l.filter (clB 29 t)).length (decR (l.filter (clB 29 t))) (rowP (l.filter (clB 29 t))) with
    | nil => exact absurd ho h
    | cons a t => rfl
  · cases ho : outN (l.filter (clB 29 t)).length (decR (l.filter (clB 29 t))) (rowP (l.filter (clB 29 t))) with
    | nil => exact absurd ho h
    | cons a t => rfl
theorem may8S : (mayS decM).ok Try.prog 8 := fun ds r hD hv => by
  obtain ⟨x, t, rfl, hx, hl, hz⟩ := hD
  cases hv
  refine EntX.gen1 hx ?_
  exact EntX.sla7 (may8 hz hl t)
theorem eqP_self (e : List DV) : eqP e e = true := by simp [eqP]
theorem all_plain (r : List (List DV)) {e : List DV} (he : e ∈ r) : (r.filter (clB 31 (frm e))).all nrB = plB r e := by
  unfold plB
  refine Bool.eq_iff_iff.2 ?_
  rw [List.all_eq_true, Bool.and_eq_true]
  have hcl : ∀ q, clB 31 (frm e) q = (frm q == frm e) := fun q => rfl
  constructor
  · intro h
    refine ⟨h e (List.mem_filter.2 ⟨he, by rw [hcl]; exact beq_self_eq_true _⟩), ?_⟩
    rw [Bool.not_eq_true', List.any_eq_false]
    intro q hq
    unfold hiB
    cases hf : ((cellA q 1).toI == (cellA e 1).toI) with
    | false => simp
    | true =>
      have := h q (List.mem_filter.2 ⟨hq, by rw [hcl]; exact hf⟩)
      unfold nrB at this
      simp [bne, this]
  · rintro ⟨h1, h2⟩ q hq
    obtain ⟨hq1, hq2⟩ := List.mem_filter.1 hq
    rw [Bool.not_eq_true', List.any_eq_false] at h2
    have := h2 q hq1
    unfold hiB at this
    rw [hcl] at hq2
    rw [show ((cellA q 1).toI == (cellA e 1).toI) = true from hq2] at this
    simp [bne] at this
    unfold nrB
    simp [this]
theorem dec_may {r : List (List DV)} (hn : ND r) {i : Nat} (hi : i < r.length) : decM r i = decR r i := by
  unfold decM decR ofR
  rw [gd hi, all_plain r (List.getElem_mem hi)]
  have hsplit : r = r.take i ++ r[i] :: r.drop (i + 1) := by
    rw [← List.drop_eq_getElem_cons hi, List.take_append_drop]
  have hids : ∀ a ∈ r.take i, idO a ≠ idO r[i] := by
    intro a ha
    have h := hn
    unfold ND at h
    rw [hsplit] at h
    exact (List.pairwise_append.1 h).2.2 a ha r[i] (List.mem_cons_self ..)
  have hm : r.filter (clB 31 (frm r[i])) = (r.take i).filter (clB 31 (frm r[i])) ++ (r[i] :: (r.drop (i + 1)).filter (clB 31 (frm r[i]))) := by
    have gen : ∀ φ : List DV → Bool, r.filter φ = (r.take i).filter φ ++ (r[i] :: r.drop (i + 1)).filter φ := fun φ => by rw [← List.filter_append, ← hsplit]
    rw [gen, List.filter_cons, if_pos (show clB 31 (frm r[i]) r[i] = true from beq_self_eq_true (frm r[i]))]
  rw [hm]
  cases hp : (r.take i).filter (clB 31 (frm r[i])) with
  | nil =>
    have : seenB r i (frm r[i]) = false := by
      unfold seenB
      rw [List.any_eq_false]
      intro a ha h
      exact List.filter_eq_nil_iff.1 hp a ha h
    rw [this]
    show _ = (bif eqP r[i] r[i] then true else _)
    rw [eqP_self]
    rfl
  | cons x xs =>
    have hx : x ∈ (r.take i).filter (clB 31 (frm r[i])) := by rw [hp]; exact List.mem_cons_self ..
    obtain ⟨hx1, hx2⟩ := List.mem_filter.1 hx
    have : seenB r i (frm r[i]) = true := List.any_eq_true.2 ⟨x, hx1, hx2⟩
    rw [this]
    have hne := hids x hx1
    show _ = (bif eqP x r[i] then true else _)
    have : eqP x r[i] = false := by
      unfold eqP
      rw [show ((cellA x 0).toI == (cellA r[i] 0).toI) = false from beq_false_of_ne hne]
      rfl
    rw [this]
    rfl
theorem outN_may {r : List (List DV)} (hn : ND r) : outN r.length (decM r) (rowP r) = outN r.length (decR r) (rowP r) := outN_congr (fun i hi => dec_may hn hi) fun _ _ => rfl
end Go.Proofs.Ytjejjokdbbedlaa
