/- The statement 'Rows.FitsTellsSaid': its function is run by the pure machine on data of its parameters' kinds; it gives true. No condition. -/
import Derived.Test.YthjcfiekdejdgaaRows
import Derived.Test.YthjcfiekdejdgaaGq
import Derived.WalkKit
import Derived.ProofKit
import Derived.OpenShut
import Derived.ShutString
namespace Go.Proofs.Ythjcfiekdejdgaa.fitsTells
open Go Go.Proofs Go.ChangeShapes Go.WideShapes Go.ChangeAt Go.RowKit Vm
set_option linter.unusedVariables false
set_option linter.unusedSimpArgs false

theorem own : ownKnob Try.prog.godebug = none := by kernel_rfl

def kinds : List Kd := [.struct [.slice (.struct [.int .i64, .int .i64, .int .i64]), .slice (.slice (.int .i64)), .slice (.int .i64), .slice (.slice (.int .i64))], .slice (.struct [.int .i64, .int .i64, .int .i64, .int .i64, .int .i64, .int .i64, .int .i64])]
theorem mat_of {l : List (List DV)} (h : ∀ x ∈ l, ∃ es, x = [.sla false 1 es] ∧ ∀ y ∈ es, ∃ n, y = [.int .i64 n] ∧ (Lit.int .i64 n).wf = true) : Mat l := fun e he => by
  obtain ⟨es, rfl, hes⟩ := h e he
  refine ⟨rfl, rfl, fun r hr => ?_⟩
  obtain ⟨n, rfl, w⟩ := hes r hr
  exact ⟨rfl, wf_i64 w⟩
theorem loop30 (L m : Nat) (ac bs ms qs : List (List DV)) {l : List (List DV)} (hl : l.length ≤ 1000) (hz : ∀ e ∈ l, okRow z7 e = true) :
    LoopOk (LB tab spQ lQ L (m+4) h30 c3l0) (S140 l (bk ac bs ms qs) 0) (.ex 0, St.of [(1, .d (.sla false 7 l)), (2, .d (.rptr (bk ac bs ms qs) 0))] [(2, none)]) := by
  refine loop_meas (fun j : Nat => S140 l (bk ac bs ms qs) (j : Nat)) (fun j => l.length - j) (fun j => j ≤ l.length) (fun _ => (.ex 0, St.of [(1, .d (.sla false 7 l)), (2, .d (.rptr (bk ac bs ms qs) 0))] [(2, none)])) (fun j hs => ?_) 0 (Nat.zero_le _)
  by_cases hj : j < l.length
  · left
    refine ⟨j + 1, hj, by omega, rfl, fun K => ?_⟩
    rw [s30, lt_dec hj, cond_true, look_nat hj, hz _ (List.getElem_mem hj), cond_true, wrap_succ (by omega)]
    refine (need_pos ⟨_, _, _, _, _, _, _, _, _, _, _, rfl⟩).trans ?_
    rw [look_nat hj, hz _ (List.getElem_mem hj), cond_true]
    refine (need_pos ⟨_, _, _, _, _, _, _, _, _, _, _, rfl⟩).trans ?_
    rw [beq_self_eq_true]
    rfl
  · right
    have : j = l.length := by omega
    subst this
    refine ⟨by simp, fun K => ?_⟩
    rw [s30, lt_dec_self]
    rfl
theorem runsS (xs : List DV) (h : KVs kinds xs) : Ent Try.prog 3 xs (.bool true) := by
  simp only [kinds, KVs, KV, KC, KCs] at h
  obtain ⟨x, _, rfl, ⟨ys, rfl, _, _, rfl, ⟨ac, rfl, ha⟩, _, _, rfl, ⟨bs, rfl, hb⟩, _, _, rfl, ⟨ms, rfl, hm⟩, _, _, rfl, ⟨qs, rfl, hq⟩, rfl⟩, _, _, rfl, ⟨l, hx, hes⟩, rfl⟩ := h
  cases hx
  have hT : TY ac bs ms qs := by
    refine ⟨fun e he => ?_, mat_of hb, fun e he => ?_, mat_of hq⟩
    · obtain ⟨_, _, rfl, ⟨a0, rfl, _⟩, _, _, rfl, ⟨a1, rfl, _⟩, _, _, rfl, ⟨a2, rfl, _⟩, rfl⟩ := ha e he
      rfl
    · obtain ⟨n, rfl, w⟩ := hm e he
      exact ⟨rfl, wf_i64 w⟩
  have hz : ∀ e ∈ l, okRow z7 e = true := fun e he => by
    obtain ⟨_, _, rfl, ⟨a0, rfl, _⟩, _, _, rfl, ⟨a1, rfl, _⟩, _, _, rfl, ⟨a2, rfl, _⟩, _, _, rfl, ⟨a3, rfl, _⟩, _, _, rfl, ⟨a4, rfl, _⟩, _, _, rfl, ⟨a5, rfl, _⟩, _, _, rfl, ⟨a6, rfl, _⟩, rfl⟩ := hes e he
    rfl
  refine of_FK tab_ok spQ_ok (L := 20) (n := 0 + 8) ((t3 0 ac bs ms qs l).trans ?_)
  refine (need_pos ⟨_, _, _, _, rfl, hT⟩).trans ?_
  cases hk : isBk ac bs ms qs with
  | false => rfl
  | true =>
    have hB := BK.of hT hk
    rw [Bool.not_true, cond_false]
    refine cond_of (fun _ => rfl) (fun h => ?_)
    have hl : l.length ≤ 1000 := by
      have := of_decide_eq_false h
      omega
    refine (need_pos (loop30 20 (0 + 4) ac bs ms qs hl hz)).trans ?_
    refine (need_pos ⟨ac, bs, ms, qs, .sla false 7 l, rfl, hB, Sl.sla 7 false l, hl, hz⟩).trans ?_
    refine (need_pos ⟨ac, bs, ms, qs, .sla false 7 l, rfl, hB, Sl.sla 7 false l, hl, hz⟩).trans ?_
    rw [beq_self_eq_true, cond_true]
    refine (need_pos ⟨ac, bs, ms, qs, .sla false 7 l, rfl, Sl.sla 7 false l, hl, hz⟩).trans ?_
    cases hv : allV ac.length l with
    | false => exact need_pos rfl
    | true =>
      have hp := po_all hz (Bool.and_eq_true_iff.1 hv).1
      have h6 := hB.n6
      have hD : shoS.D [.agg (bk ac bs ms qs), .sla false 7 l] := ⟨ac, bs, ms, qs, .sla false 7 l, rfl, hB, Sl.sla 7 false l, hl, hp⟩
      refine (need_pos hD).trans ((need_pos hD).trans ((need_pos ⟨_, _, rfl, Sl.sla _ _ _, Sl.sla _ _ _, rfl, ?_, ?_⟩).trans (need_pos rfl)))
      · have := outL_len ac.length (shP ac bs ms qs l)
        show (outL ac.length (shP ac bs ms qs l)).length ≤ 1000
        omega
      · intro e he
        obtain ⟨j, _, rfl⟩ := List.mem_map.1 (show e ∈ ((List.range ac.length).filter (shP ac bs ms qs l)).map (fun i => [DV.int .i64 ((i : Nat) : Int)]) from he)
        rfl

set_option maxRecDepth 100000 in
theorem lifted (os : Os) (started : os.Started) (H : Type) (enc : TypeId × Value → H) :
    ReturnsInHanded {} Try.checked os 3 .any (Rows.fitsTellsSpec.pre6 enc Try.prog Try.f3 Rows.fitsTellsRow.domain false) (Rows.fitsTellsSpec.post enc Try.prog Try.f3 false true false false) := by
  refine returnsInHanded_of_change (C := Try.checked) own started (by kernel_rfl) Try.func3
    (ChangeSpec.witness6 (enc := enc) (C := Try.checked) false ⟨#[], #[.agg #[.slice none 0 0, .slice none 0 0, .slice none 0 0, .slice none 0 0], .slice none 0 0], []⟩ 8 (by kernel_rfl) (by kernel_rfl) (by kernel_rfl) (by kernel_rfl)) ?_
  intro W base args ds gs before hval0 hW hcnd _
  exact law_contract (H := H) (enc := enc) (s := Rows.fitsTellsSpec) (fn := Try.f3) (by kernel_rfl) rfl (n := 8) (Ks := kinds) (by kernel_rfl) (by kernel_rfl) (rt := 4) (by kernel_rfl) (by kernel_rfl)
    (fun ds h => by
      have h' : ds.length = 2 := h
      obtain ⟨d0, d1, rfl⟩ := len2 h'
      exact ⟨rfl, rfl, rfl⟩) runsS W base args ds gs before hval0 hW

theorem over : Rows.fitsTellsRow.holds Try.pinned (OpenSpec.ofChange Rows.fitsTellsSpec) :=
  OpenClaim.holds_of_wide 3 Try.f3 rfl rfl rfl rfl rfl rfl rfl ⟨rfl, rfl, rfl, rfl, rfl⟩ rfl rfl rfl rfl rfl (by kernel_rfl) Try.func3 (by kernel_rfl)
    (of_decide_eq_true (by kernel_rfl)) (by unfold Func.isWrapper; first | (rw [if_pos (by decide +kernel)]; kernel_rfl) | (rw [if_neg (by decide +kernel)]; exact ⟨rfl, rfl⟩))
    (fun os started H enc _ => lifted os started H enc)

/-- ████ THE STATEMENT ████ -/
theorem proved : Rows.FitsTellsSaid :=
  over
#print axioms proved
end Go.Proofs.Ythjcfiekdejdgaa.fitsTells
