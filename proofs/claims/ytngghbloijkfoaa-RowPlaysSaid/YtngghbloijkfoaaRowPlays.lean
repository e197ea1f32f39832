/- The statement 'Rows.RowPlaysSaid': its function is run by the pure machine on data of its parameters' kinds; it gives true. No condition. -/
import Derived.Test.YtngghbloijkfoaaRows
import Derived.Test.YtngghbloijkfoaaRp
import Derived.WalkKit
import Derived.ProofKit
import Derived.OpenShut
import Derived.ShutString
namespace Go.Proofs.Ytngghbloijkfoaa.rowPlays
open Go Go.Proofs Go.ChangeShapes Go.WideShapes Go.ChangeAt Go.RowKit Vm
set_option linter.unusedVariables false
set_option linter.unusedSimpArgs false

theorem own : ownKnob Try.prog.godebug = none := by kernel_rfl

def kinds : List Kd := [.slice (.struct [.int .i64, .struct [.int .i64, .int .i64, .int .i64, .int .i64, .int .i64, .int .i64, .int .i64]])]
theorem spS7_ok : ∀ f s, spS7 f = some s → s.ok Try.prog f := spAdd_ok known21 (spAdd_ok put22 (spAdd_ok drop23 (spAdd_ok cls24 (spAdd_ok front28 (spAdd_ok back29 (spAdd_ok fnd34 (spAdd_ok is19 (spAdd_ok drop25 (spAdd_ok fnd26 (spAdd_ok same27 (spAdd_ok put30 (spAdd_ok front31 (spAdd_ok back32 (spAdd_ok class33 noSp_ok))))))))))))))
theorem runsS (xs : List DV) (h : KVs kinds xs) : Ent Try.prog 10 xs (.bool true) := by
  simp only [kinds, KVs, KV, KC, KCs] at h
  obtain ⟨x, _, rfl, ⟨es, hx, hes⟩, rfl⟩ := h
  cases hx
  have hz : ∀ e ∈ es, okRow (List.replicate 8 (.int .i64 0)) e = true := fun e he => by
    obtain ⟨_, _, rfl, ⟨a0, rfl, _⟩, _, _, rfl, ⟨_, _, rfl, ⟨a1, rfl, _⟩, _, _, rfl, ⟨a2, rfl, _⟩, _, _, rfl, ⟨a3, rfl, _⟩, _, _, rfl, ⟨a4, rfl, _⟩, _, _, rfl, ⟨a5, rfl, _⟩, _, _, rfl, ⟨a6, rfl, _⟩, _, _, rfl, ⟨a7, rfl, _⟩, rfl⟩, rfl⟩ := hes e he
    rfl
  refine of_FK tab_ok spS7_ok (L := 20) (n := 0 + 8) ((t10 20 0 es).trans ?_)
  refine cond_of (fun _ => rfl) (fun h => ?_)
  have h100 : ¬ (es.length : Int) > 100 := of_decide_eq_false h
  exact (need_pos (loop100 20 (0 + 4) (by omega) hz)).trans (need_pos rfl)

set_option maxRecDepth 100000 in
theorem lifted (os : Os) (started : os.Started) (H : Type) (enc : TypeId × Value → H) :
    ReturnsInHanded {} Try.checked os 10 .any (Rows.rowPlaysSpec.pre6 enc Try.prog Try.f10 Rows.rowPlaysRow.domain false) (Rows.rowPlaysSpec.post enc Try.prog Try.f10 false true false false) := by
  refine returnsInHanded_of_change (C := Try.checked) own started (by kernel_rfl) Try.func10
    (ChangeSpec.witness6 (enc := enc) (C := Try.checked) false ⟨#[], #[.slice none 0 0], []⟩ 8 (by kernel_rfl) (by kernel_rfl) (by kernel_rfl) (by kernel_rfl)) ?_
  intro W base args ds gs before hval0 hW hcnd _
  exact law_contract (H := H) (enc := enc) (s := Rows.rowPlaysSpec) (fn := Try.f10) (by kernel_rfl) rfl (n := 8) (Ks := kinds) (by kernel_rfl) (by kernel_rfl) (rt := 4) (by kernel_rfl) (by kernel_rfl)
    (fun ds h => by
      have h' : ds.length = 1 := h
      obtain ⟨d0, rfl⟩ := len1 h'
      exact ⟨rfl, rfl, rfl⟩) runsS W base args ds gs before hval0 hW

theorem over : Rows.rowPlaysRow.holds Try.pinned (OpenSpec.ofChange Rows.rowPlaysSpec) :=
  OpenClaim.holds_of_wide 10 Try.f10 rfl rfl rfl rfl rfl rfl rfl ⟨rfl, rfl, rfl, rfl, rfl⟩ rfl rfl rfl rfl rfl (by kernel_rfl) Try.func10 (by kernel_rfl)
    (of_decide_eq_true (by kernel_rfl)) (by unfold Func.isWrapper; first | (rw [if_pos (by decide +kernel)]; kernel_rfl) | (rw [if_neg (by decide +kernel)]; exact ⟨rfl, rfl⟩))
    (fun os started H enc _ => lifted os started H enc)

/-- ████ THE STATEMENT ████ -/
theorem proved : Rows.RowPlaysSaid :=
  over
#print axioms proved
end Go.Proofs.Ytngghbloijkfoaa.rowPlays
