/- The statement 'Rows.MostTellsSaid': its function is run by the pure machine on data of its parameters' kinds; it gives true. No condition. -/
import Derived.Test.YtakapalpcglfaaaRows
import Derived.Test.YtakapalpcglfaaaMe
import Derived.WalkKit
import Derived.ProofKit
import Derived.OpenShut
import Derived.ShutString
namespace Go.Proofs.Ytakapalpcglfaaa.mostTells
open Go Go.Proofs Go.ChangeShapes Go.WideShapes Go.ChangeAt Go.RowKit Vm
set_option linter.unusedVariables false
set_option linter.unusedSimpArgs false

theorem own : ownKnob Try.prog.godebug = none := by kernel_rfl

def kinds : List Kd := [.struct [.slice (.struct [.int .i64, .int .i64, .int .i64]), .slice (.slice (.int .i64)), .slice (.int .i64), .slice (.slice (.int .i64))], .int .i64, .int .i64, .int .i64]
theorem mat_of {l : List (List DV)} (h : ∀ x ∈ l, ∃ es, x = [.sla false 1 es] ∧ ∀ y ∈ es, ∃ n, y = [.int .i64 n] ∧ (Lit.int .i64 n).wf = true) : Mat l := fun e he => by
  obtain ⟨es, rfl, hes⟩ := h e he
  refine ⟨rfl, rfl, fun r hr => ?_⟩
  obtain ⟨n, rfl, w⟩ := hes r hr
  exact ⟨rfl, wf_i64 w⟩
theorem runsS (xs : List DV) (h : KVs kinds xs) : Ent Try.prog 7 xs (.bool true) := by
  simp only [kinds, KVs, KV, KC, KCs] at h
  obtain ⟨x, _, rfl, ⟨ys, rfl, _, _, rfl, ⟨ac, rfl, ha⟩, _, _, rfl, ⟨bs, rfl, hb⟩, _, _, rfl, ⟨ms, rfl, hm⟩, _, _, rfl, ⟨qs, rfl, hq⟩, rfl⟩, _, _, rfl, ⟨f, hf, _⟩, _, _, rfl, ⟨t, ht, _⟩, _, _, rfl, ⟨c, hc, _⟩, rfl⟩ := h
  cases hf
  cases ht
  cases hc
  have hT : TY ac bs ms qs := by
    refine ⟨fun e he => ?_, mat_of hb, fun e he => ?_, mat_of hq⟩
    · obtain ⟨_, _, rfl, ⟨a0, rfl, _⟩, _, _, rfl, ⟨a1, rfl, _⟩, _, _, rfl, ⟨a2, rfl, _⟩, rfl⟩ := ha e he
      rfl
    · obtain ⟨n, rfl, w⟩ := hm e he
      exact ⟨rfl, wf_i64 w⟩
  refine of_FK tab_ok spTe_ok (L := 20) (n := 0 + 8) ((t7 20 0 ac bs ms qs f t c).trans ?_)
  refine (need_pos ⟨_, _, _, _, rfl, hT⟩).trans ?_
  cases hk : isBk ac bs ms qs with
  | false => rfl
  | true =>
    have hB := BK.of hT hk
    refine (need_pos ⟨_, _, _, _, _, _, _, rfl, hB⟩).trans ((need_pos ⟨_, _, _, _, _, _, _, rfl, hB⟩).trans ?_)
    rw [beq_self_eq_true, cond_true]
    exact need_pos rfl

set_option maxRecDepth 100000 in
theorem lifted (os : Os) (started : os.Started) (H : Type) (enc : TypeId × Value → H) :
    ReturnsInHanded {} Try.checked os 7 .any (Rows.mostTellsSpec.pre6 enc Try.prog Try.f7 Rows.mostTellsRow.domain false) (Rows.mostTellsSpec.post enc Try.prog Try.f7 false true false false) := by
  refine returnsInHanded_of_change (C := Try.checked) own started (by kernel_rfl) Try.func7
    (ChangeSpec.witness6 (enc := enc) (C := Try.checked) false ⟨#[], #[.agg #[.slice none 0 0, .slice none 0 0, .slice none 0 0, .slice none 0 0], .int .i64 0, .int .i64 0, .int .i64 0], []⟩ 8 (by kernel_rfl) (by kernel_rfl) (by kernel_rfl) (by kernel_rfl)) ?_
  intro W base args ds gs before hval0 hW hcnd _
  exact law_contract (H := H) (enc := enc) (s := Rows.mostTellsSpec) (fn := Try.f7) (by kernel_rfl) rfl (n := 8) (Ks := kinds) (by kernel_rfl) (by kernel_rfl) (rt := 4) (by kernel_rfl) (by kernel_rfl)
    (fun ds h => by
      have h' : ds.length = 4 := h
      obtain ⟨d0, d1, d2, d3, rfl⟩ := len4 h'
      exact ⟨rfl, rfl, rfl⟩) runsS W base args ds gs before hval0 hW

theorem over : Rows.mostTellsRow.holds Try.pinned (OpenSpec.ofChange Rows.mostTellsSpec) :=
  OpenClaim.holds_of_wide 7 Try.f7 rfl rfl rfl rfl rfl rfl rfl ⟨rfl, rfl, rfl, rfl, rfl⟩ rfl rfl rfl rfl rfl (by kernel_rfl) Try.func7 (by kernel_rfl)
    (of_decide_eq_true (by kernel_rfl)) (by unfold Func.isWrapper; first | (rw [if_pos (by decide +kernel)]; kernel_rfl) | (rw [if_neg (by decide +kernel)]; exact ⟨rfl, rfl⟩))
    (fun os started H enc _ => lifted os started H enc)

/-- ████ THE STATEMENT ████ -/
theorem proved : Rows.MostTellsSaid :=
  over
#print axioms proved
end Go.Proofs.Ytakapalpcglfaaa.mostTells
