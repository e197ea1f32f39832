/- What is known of Short: its value. No condition. -/
import Derived.Test.YthjcfiekdejdgaaGh
namespace Go.Proofs.Ythjcfiekdejdgaa
open Go Go.Proofs Go.RowKit Vm
set_option linter.unusedVariables false
set_option linter.unusedSimpArgs false
theorem spS_ok : ∀ f s, spS f = some s → s.ok Try.prog f := spAdd_ok con28 (spAdd_ok mov29 (spAdd_ok short31 noSp_ok))
theorem outL_succ (n : Nat) (P : Nat → Bool) : outL (n + 1) P = outL n P ++ cond (P n) [[.int .i64 ((n : Nat) : Int)]] [] := by
  unfold outL
  rw [List.range_succ, List.filter_append, List.map_append]
  cases h : P n <;> simp [h]
theorem outL_len (n : Nat) (P : Nat → Bool) : (outL n P).length ≤ n := by
  unfold outL
  rw [List.length_map]
  exact Nat.le_trans (List.length_filter_le _ _) (by rw [List.length_range]; exact Nat.le_refl n)
def SI160 (ac bs ms qs l : List (List DV)) (i : Nat) : St :=
  S160 ac.length (bk ac bs ms qs) l (oV (outL i (shP ac bs ms qs l)).length (outL i (shP ac bs ms qs l)).length) i (o1 (outL i (shP ac bs ms qs l)) (outL i (shP ac bs ms qs l)).length) (o2 (outL i (shP ac bs ms qs l)) (outL i (shP ac bs ms qs l)).length)
def R160 (ac bs ms qs l : List (List DV)) : Ex × St :=
  (.ex 0, E160 (oV (outL ac.length (shP ac bs ms qs l)).length (outL ac.length (shP ac bs ms qs l)).length) (o1 (outL ac.length (shP ac bs ms qs l)) (outL ac.length (shP ac bs ms qs l)).length) (o2 (outL ac.length (shP ac bs ms qs l)) (outL ac.length (shP ac bs ms qs l)).length))
theorem step160 {ac bs ms qs l : List (List DV)} (hB : BK ac bs ms qs) (hl : l.length ≤ 1000) (hp : ∀ e ∈ l, PO ac.length e) {i : Nat} (hi : i < ac.length) (v : AV) (a1 a2 : Option Ob) (app : Option DV) (k : Kont) :
    stepS ac.length ac bs ms qs l v i a1 a2 app k = cond (shP ac bs ms qs l i) app (k .nrm (S160 ac.length (bk ac bs ms qs) l v ((i + 1 : Nat) : Int) a1 a2)) := by
  have h6 := hB.n6
  have hC : conS.D [.sla false 7 l, k30 (i : Int)] := ⟨_, _, _, rfl, Sl.sla 7 false l, (by show l.length ≤ 1000000; omega), fun e he => (hp e he).z, ClD.a _⟩
  have hS : isShS.D [mD ac.length l, .agg (bk ac bs ms qs), .int .i64 ((i : Nat) : Int), .sla false 7 l] := ⟨ac, bs, ms, qs, i, .sla false 7 l, rfl, hB, hi, Sl.sla 7 false l, hl, hp⟩
  unfold stepS
  rw [lt_dec hi, cond_true, need_pos hC, wrap_succ (by omega)]
  unfold shP
  cases h : l.any (clB (k30 ((i : Nat) : Int))) with
  | false => rfl
  | true =>
    rw [cond_true, need_pos hS, Int.toNat_natCast, Bool.true_and]
theorem round160 {ac bs ms qs l : List (List DV)} (hB : BK ac bs ms qs) (hl : l.length ≤ 1000) (hp : ∀ e ∈ l, PO ac.length e) {i : Nat} (hi : i < ac.length) (L m : Nat) (k : Kont) :
    LB tab spS lH L (m+4) h160 c16l0 (SI160 ac bs ms qs l i) k = k .nrm (SI160 ac bs ms qs l (i + 1)) := by
  have hn : 1 ≤ ac.length ∧ ac.length ≤ 6 := ⟨hB.n1, hB.n6⟩
  have hO := outL_len i (shP ac bs ms qs l)
  unfold SI160
  rw [outL_succ]
  generalize outL i (shP ac bs ms qs l) = O at *
  have st := step160 hB hl hp hi
  match O with
  | [] =>
    refine (s160A hn L m ac bs ms qs l i k).trans ?_
    rw [st]
    cases hP : shP ac bs ms qs l i with
    | false => rfl
    | true => rw [cond_true, wrap_succ (by omega)]; rfl
  | a :: t =>
    have hr : rawD (a :: t) i = true := by
      refine decide_eq_true ?_
      rw [List.length_append, List.length_singleton]
      unfold room
      omega
    have hlen : ((a :: t) ++ [[DV.int .i64 ((i : Nat) : Int)]]).length = t.length + 1 + 1 := by simp
    have hp1 : par (t.length + 1) = !par t.length := rfl
    cases hq : par t.length with
    | true =>
      have e0 : S160 ac.length (bk ac bs ms qs) l (oV (a :: t).length (a :: t).length) i (o1 (a :: t) (a :: t).length) (o2 (a :: t) (a :: t).length) = S160 ac.length (bk ac bs ms qs) l (.aref 34 1 0 (a :: t).length) i (some (.dat 3 1 (a :: t))) none := by
        simp only [List.length_cons, oV, o1, o2, hq, cond_true]
      rw [e0, s160B hn L m ac bs ms qs l (a :: t) i k, st, hr, cond_true]
      cases hP : shP ac bs ms qs l i with
      | false =>
        rw [cond_false, cond_false, List.append_nil]
        simp only [List.length_cons, oV, o1, o2, hq, cond_true]
      | true =>
        rw [cond_true, cond_true, wrap_succ (by omega), hlen]
        simp only [oV, o1, o2, hp1, hq, Bool.not_true, cond_false]
    | false =>
      have e0 : S160 ac.length (bk ac bs ms qs) l (oV (a :: t).length (a :: t).length) i (o1 (a :: t) (a :: t).length) (o2 (a :: t) (a :: t).length) = S160 ac.length (bk ac bs ms qs) l (.aref 50034 1 0 (a :: t).length) i none (some (.dat 3 1 (a :: t))) := by
        simp only [List.length_cons, oV, o1, o2, hq, cond_false]
      rw [e0, s160C hn L m ac bs ms qs l (a :: t) i k, st, hr, cond_true]
      cases hP : shP ac bs ms qs l i with
      | false =>
        rw [cond_false, cond_false, List.append_nil]
        simp only [List.length_cons, oV, o1, o2, hq, cond_false]
      | true =>
        rw [cond_true, cond_true, wrap_succ (by omega), hlen]
        simp only [oV, o1, o2, hp1, hq, Bool.not_false, cond_true]
theorem end160 {ac bs ms qs l : List (List DV)} (hB : BK ac bs ms qs) (L m : Nat) (k : Kont) :
    LB tab spS lH L (m+4) h160 c16l0 (SI160 ac bs ms qs l ac.length) k = k (R160 ac bs ms qs l).1 (R160 ac bs ms qs l).2 := by
  have hn : 1 ≤ ac.length ∧ ac.length ≤ 6 := ⟨hB.n1, hB.n6⟩
  unfold SI160 R160
  generalize outL ac.length (shP ac bs ms qs l) = O at *
  match O with
  | [] =>
    refine (s160A hn L m ac bs ms qs l ac.length k).trans ?_
    unfold stepS
    rw [lt_dec_self, cond_false]
    rfl
  | a :: t =>
    cases hq : par t.length with
    | true =>
      simp only [List.length_cons, oV, o1, o2, hq, cond_true]
      refine (s160B hn L m ac bs ms qs l (a :: t) ac.length k).trans ?_
      unfold stepS
      rw [lt_dec_self, cond_false]
      rfl
    | false =>
      simp only [List.length_cons, oV, o1, o2, hq, cond_false]
      refine (s160C hn L m ac bs ms qs l (a :: t) ac.length k).trans ?_
      unfold stepS
      rw [lt_dec_self, cond_false]
      rfl
theorem loop160 {ac bs ms qs l : List (List DV)} (hB : BK ac bs ms qs) (hl : l.length ≤ 1000) (hp : ∀ e ∈ l, PO ac.length e) (L m : Nat) :
    LoopOk (LB tab spS lH L (m+4) h160 c16l0) (S160 ac.length (bk ac bs ms qs) l (.d .nilsl) 0 none none) (R160 ac bs ms qs l) :=
  loop_rounds (fun i => SI160 ac bs ms qs l i) (fun _ => R160 ac bs ms qs l) ac.length (fun i hi => .inl ⟨fun k => round160 hB hl hp hi L m k, rfl⟩) ⟨by simp [R160], fun k => end160 hB L m k⟩ 0 (Nat.zero_le _)
/-- what is known of Short -/
def shoS : FSpec where
  D ds := ∃ ac bs ms qs x, ds = [.agg (bk ac bs ms qs), x] ∧ BK ac bs ms qs ∧ Sl 7 x ∧ (rowsA x).length ≤ 1000 ∧ ∀ e ∈ rowsA x, PO ac.length e
  val ds := match ds with | [.agg [.sla _ _ ac, .sla _ _ bs, .sla _ _ ms, .sla _ _ qs], x] => some (.sla false 1 (outL ac.length (shP ac bs ms qs (rowsA x)))) | _ => none
theorem sho16 : shoS.ok Try.prog 16 := fun ds r hD hv => by
  obtain ⟨ac, bs, ms, qs, x, rfl, hB, hx, hl, hp⟩ := hD
  cases hv
  refine Sl.gen2' rfl hx ?_
  generalize rowsA x = l at *
  have hn : 1 ≤ ac.length ∧ ac.length ≤ 6 := ⟨hB.n1, hB.n6⟩
  have hL := loop160 hB hl hp 20 (0 + 8)
  have hM : movS.D [.int .i64 (ac.length : Nat), .sla false 7 l] := ⟨ac.length, .sla false 7 l, rfl, hB.n1, hB.n6, Sl.sla 7 false l, hl, hp⟩
  have h := t16 hn 0 bs ms qs l
  rw [need_pos hM] at h
  unfold t16R at h
  unfold R160 at hL
  generalize outL ac.length (shP ac bs ms qs l) = O at *
  match O with
  | [] =>
    refine EntX.res (r := .nilsl) (spec_run (lsp := lH) tab_ok spS_ok 20 (0 + 12) (h.trans ?_)) (DLe.nil _ _) rfl
    exact need_pos hL
  | a :: t =>
    refine EntX.res (r := .sl (.own 3) 1 (a :: t)) (spec_run (lsp := lH) tab_ok spS_ok 20 (0 + 12) (h.trans ?_)) (DLe.sl _ _ _) rfl
    rw [show (a :: t).isEmpty = false from rfl, cond_false, show (a :: t).length - 1 = t.length from rfl]
    cases hq : par t.length with
    | true =>
      rw [cond_true]
      simp only [List.length_cons, oV, o1, o2, hq, cond_true] at hL
      exact (need_pos hL).trans (retO_eq _)
    | false =>
      rw [cond_false]
      simp only [List.length_cons, oV, o1, o2, hq, cond_false] at hL
      exact (need_pos hL).trans (retO_eq _)
end Go.Proofs.Ythjcfiekdejdgaa
