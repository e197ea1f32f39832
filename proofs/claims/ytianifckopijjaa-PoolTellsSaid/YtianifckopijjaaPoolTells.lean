/- The statement 'Rows.PoolTellsSaid': its function is run by the pure machine on data of its parameters' kinds; it gives true. No condition. -/
import Derived.Test.YtianifckopijjaaRows
import Derived.Test.YtianifckopijjaaPe
import Derived.WalkKit
import Derived.ProofKit
import Derived.OpenShut
import Derived.ShutString
namespace Go.Proofs.Ytianifckopijjaa.poolTells
open Go Go.Proofs Go.ChangeShapes Go.WideShapes Go.ChangeAt Go.RowKit Vm
set_option linter.unusedVariables false
set_option linter.unusedSimpArgs false

theorem own : ownKnob Try.prog.godebug = none := by kernel_rfl

def kinds : List Kd := [.slice (.struct [.int .i64, .int .i64]), .slice (.int .i64), .slice (.int .i64), .int .i64, .int .i64]
theorem runsS (xs : List DV) (h : KVs kinds xs) : Ent Try.prog 9 xs (.bool true) := by
  simp only [kinds, KVs, KV, KC, KCs] at h
  obtain ⟨x, _, rfl, ⟨es, hx, hes⟩, _, _, rfl, ⟨p, hp, hps⟩, _, _, rfl, ⟨u, hu, hus⟩, _, _, rfl, ⟨i, hi, _⟩, _, _, rfl, ⟨v, hv, _⟩, rfl⟩ := h
  cases hx
  cases hp
  cases hu
  cases hi
  cases hv
  have he : ∀ e ∈ es, okRow z2 e = true ∧ is64 (cut e) := fun e he => by
    obtain ⟨_, _, rfl, ⟨a0, rfl, _⟩, _, _, rfl, ⟨a1, rfl, w⟩, rfl⟩ := hes e he
    exact ⟨rfl, wf_i64 w⟩
  have hpz : ∀ e ∈ p, okRow z1 e = true ∧ is64 (cel e) := fun e he => by
    obtain ⟨a0, rfl, w⟩ := hps e he
    exact ⟨rfl, wf_i64 w⟩
  have huz : ∀ e ∈ u, okRow z1 e = true ∧ is64 (cel e) := fun e he => by
    obtain ⟨a0, rfl, w⟩ := hus e he
    exact ⟨rfl, wf_i64 w⟩
  refine of_FK tab_ok spX_ok (L := 20) (n := 0 + 8) ((t9 20 0 es p u i v).trans ?_)
  refine cond_of (fun _ => rfl) (fun h => ?_)
  have hl : es.length ≤ 1000 ∧ p.length ≤ 1000 ∧ u.length ≤ 1000 := by
    simp at h
    omega
  have nV : valS.D [.sla false 2 es, .sla false 1 p, .sla false 1 u] := ⟨_, _, _, rfl, Sl.sla _ _ _, Sl.sla _ _ _, Sl.sla _ _ _, he, hpz, huz, hl⟩
  have hI : I1 1000 (.sla false 1 u) := ⟨Sl.sla _ _ _, fun e h => (huz e h).1, hl.2.2⟩
  have hI2 : I1 1000 (.sla false 1 (setL u i v)) := ⟨Sl.sla _ _ _, setL_rows (fun e h => (huz e h).1) i v, by rw [rowsA_sla, setL_length]; exact hl.2.2⟩
  refine (need_pos nV).trans ((need_pos nV).trans ?_)
  rw [beq_self_eq_true, beq_self_eq_true, cond_true, cond_true]
  refine (need_pos ⟨_, _, _, rfl, hI⟩).trans ((need_pos ⟨_, _, _, rfl, hI⟩).trans ((need_pos ⟨_, _, rfl, hI2, hI2⟩).trans ?_))
  rw [show same1 (setL u i v) (setL u i v) = true by simp [same1], cond_true]
  exact need_pos rfl

set_option maxRecDepth 100000 in
theorem lifted (os : Os) (started : os.Started) (H : Type) (enc : TypeId × Value → H) :
    ReturnsInHanded {} Try.checked os 9 .any (Rows.poolTellsSpec.pre6 enc Try.prog Try.f9 Rows.poolTellsRow.domain false) (Rows.poolTellsSpec.post enc Try.prog Try.f9 false true false false) := by
  refine returnsInHanded_of_change (C := Try.checked) own started (by kernel_rfl) Try.func9
    (ChangeSpec.witness6 (enc := enc) (C := Try.checked) false ⟨#[], #[.slice none 0 0, .slice none 0 0, .slice none 0 0, .int .i64 0, .int .i64 0], []⟩ 8 (by kernel_rfl) (by kernel_rfl) (by kernel_rfl) (by kernel_rfl)) ?_
  intro W base args ds gs before hval0 hW hcnd _
  exact law_contract (H := H) (enc := enc) (s := Rows.poolTellsSpec) (fn := Try.f9) (by kernel_rfl) rfl (n := 8) (Ks := kinds) (by kernel_rfl) (by kernel_rfl) (rt := 4) (by kernel_rfl) (by kernel_rfl)
    (fun ds h => by
      have h' : ds.length = 5 := h
      obtain ⟨d0, d1, d2, d3, d4, rfl⟩ := len5 h'
      exact ⟨rfl, rfl, rfl⟩) runsS W base args ds gs before hval0 hW

theorem over : Rows.poolTellsRow.holds Try.pinned (OpenSpec.ofChange Rows.poolTellsSpec) :=
  OpenClaim.holds_of_wide 9 Try.f9 rfl rfl rfl rfl rfl rfl rfl ⟨rfl, rfl, rfl, rfl, rfl⟩ rfl rfl rfl rfl rfl (by kernel_rfl) Try.func9 (by kernel_rfl)
    (of_decide_eq_true (by kernel_rfl)) (by unfold Func.isWrapper; first | (rw [if_pos (by decide +kernel)]; kernel_rfl) | (rw [if_neg (by decide +kernel)]; exact ⟨rfl, rfl⟩))
    (fun os started H enc _ => lifted os started H enc)

/-- ████ THE STATEMENT ████ -/
theorem proved : Rows.PoolTellsSaid :=
  over
#print axioms proved
end Go.Proofs.Ytianifckopijjaa.poolTells
