/- The statement 'Rows.FitsKnownSaid': its function is run by the pure machine on data of its parameters' kinds; it gives true. No condition. -/
import Derived.Test.YthjcfiekdejdgaaRows
import Derived.Test.YthjcfiekdejdgaaFa
import Derived.WalkKit
import Derived.ProofKit
import Derived.OpenShut
import Derived.ShutString
namespace Go.Proofs.Ythjcfiekdejdgaa.fitsKnown
open Go Go.Proofs Go.ChangeShapes Go.WideShapes Go.ChangeAt Go.RowKit Vm
set_option linter.unusedVariables false
set_option linter.unusedSimpArgs false

theorem own : ownKnob Try.prog.godebug = none := by kernel_rfl

def kinds : List Kd := [.int .i64]
theorem runsS (xs : List DV) (h : KVs kinds xs) : Ent Try.prog 8 xs (.bool true) := by
  simp only [kinds, KVs, KV, KC, KCs] at h
  obtain ⟨_, _, rfl, ⟨w, h1, _⟩, rfl⟩ := h
  cases h1
  refine of_FK tab_ok spKn_ok (L := 20) (n := 0 + 12) ((t8 0 w).trans ?_)
  refine cond_of (fun _ => need_pos rfl) fun _ => ?_
  refine cond_of (fun _ => need_pos rfl) fun _ => ?_
  refine cond_of (fun _ => need_pos rfl) fun _ => ?_
  exact cond_of (fun _ => need_pos rfl) fun _ => rfl

set_option maxRecDepth 100000 in
theorem lifted (os : Os) (started : os.Started) (H : Type) (enc : TypeId × Value → H) :
    ReturnsInHanded {} Try.checked os 8 .any (Rows.fitsKnownSpec.pre6 enc Try.prog Try.f8 Rows.fitsKnownRow.domain false) (Rows.fitsKnownSpec.post enc Try.prog Try.f8 false true false false) := by
  refine returnsInHanded_of_change (C := Try.checked) own started (by kernel_rfl) Try.func8
    (ChangeSpec.witness6 (enc := enc) (C := Try.checked) false ⟨#[], #[.int .i64 0], []⟩ 8 (by kernel_rfl) (by kernel_rfl) (by kernel_rfl) (by kernel_rfl)) ?_
  intro W base args ds gs before hval0 hW hcnd _
  exact law_contract (H := H) (enc := enc) (s := Rows.fitsKnownSpec) (fn := Try.f8) (by kernel_rfl) rfl (n := 8) (Ks := kinds) (by kernel_rfl) (by kernel_rfl) (rt := 4) (by kernel_rfl) (by kernel_rfl)
    (fun ds h => by
      have h' : ds.length = 1 := h
      obtain ⟨d0, rfl⟩ := len1 h'
      exact ⟨rfl, rfl, rfl⟩) runsS W base args ds gs before hval0 hW

theorem over : Rows.fitsKnownRow.holds Try.pinned (OpenSpec.ofChange Rows.fitsKnownSpec) :=
  OpenClaim.holds_of_wide 8 Try.f8 rfl rfl rfl rfl rfl rfl rfl ⟨rfl, rfl, rfl, rfl, rfl⟩ rfl rfl rfl rfl rfl (by kernel_rfl) Try.func8 (by kernel_rfl)
    (of_decide_eq_true (by kernel_rfl)) (by unfold Func.isWrapper; first | (rw [if_pos (by decide +kernel)]; kernel_rfl) | (rw [if_neg (by decide +kernel)]; exact ⟨rfl, rfl⟩))
    (fun os started H enc _ => lifted os started H enc)

/-- ████ THE STATEMENT ████ -/
theorem proved : Rows.FitsKnownSaid :=
  over
#print axioms proved
end Go.Proofs.Ythjcfiekdejdgaa.fitsKnown
