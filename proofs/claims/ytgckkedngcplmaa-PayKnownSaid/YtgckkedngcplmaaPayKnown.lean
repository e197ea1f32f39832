/- The statement 'Rows.PayKnownSaid': its function is run by the pure machine on data of its parameters' kinds; it gives true. No condition. -/
import Derived.Test.YtgckkedngcplmaaRows
import Derived.Test.YtgckkedngcplmaaVmM
import Derived.Test.YtgckkedngcplmaaCode
import Derived.WalkKit
import Derived.ProofKit
import Derived.OpenShut
import Derived.ShutString
namespace Go.Proofs.Ytgckkedngcplmaa.payKnown
open Go Go.Proofs Go.ChangeShapes Go.WideShapes Go.ChangeAt Go.RowKit Vm
set_option linter.unusedVariables false

theorem own : ownKnob Try.prog.godebug = none := by kernel_rfl

def kinds : List Kd := [.int .i64]
theorem runs (xs : List DV) (h : KVs kinds xs) : ∃ n L, acall tab L n 5 xs = some (.bool true) := by
  simp only [kinds, KVs, KV, KC] at h
  obtain ⟨x, xs', rfl, ⟨n, hx, _⟩, rfl⟩ := h
  cases hx
  refine ⟨10, 100, ?_⟩
  by_cases h0 : n = 0
  · subst h0
    kernel_rfl
  by_cases h1 : n = 1
  · subst h1
    kernel_rfl
  by_cases h2 : n = 2
  · subst h2
    kernel_rfl
  by_cases h3 : n = 3
  · subst h3
    kernel_rfl
  by_cases h4 : n = 4
  · subst h4
    kernel_rfl
  by_cases h5 : n = 5
  · subst h5
    kernel_rfl
  by_cases h6 : n = 6
  · subst h6
    kernel_rfl
  by_cases h7 : n = 7
  · subst h7
    kernel_rfl
  by_cases h8 : n = 8
  · subst h8
    kernel_rfl
  by_cases h9 : n = 9
  · subst h9
    kernel_rfl
  by_cases h10 : n = 10
  · subst h10
    kernel_rfl
  obtain ⟨m, rfl⟩ | ⟨m, rfl⟩ := int_past 11 (n := n) (fun i hi => by
    intro e
    have : i = 0 ∨ i = 1 ∨ i = 2 ∨ i = 3 ∨ i = 4 ∨ i = 5 ∨ i = 6 ∨ i = 7 ∨ i = 8 ∨ i = 9 ∨ i = 10 := by omega
    rcases this with rfl | rfl | rfl | rfl | rfl | rfl | rfl | rfl | rfl | rfl | rfl <;> simp_all)
  · kernel_rfl
  · kernel_rfl

set_option maxRecDepth 100000 in
theorem lifted (os : Os) (started : os.Started) (H : Type) (enc : TypeId × Value → H) :
    ReturnsInHanded {} Try.checked os 5 .any (Rows.payKnownSpec.pre6 enc Try.prog Try.f5 Rows.payKnownRow.domain false) (Rows.payKnownSpec.post enc Try.prog Try.f5 false true false false) := by
  refine returnsInHanded_of_change (C := Try.checked) own started (by kernel_rfl) Try.func5
    (ChangeSpec.witness6 (enc := enc) (C := Try.checked) false ⟨#[], #[.int .i64 0], []⟩ 8 (by kernel_rfl) (by kernel_rfl) (by kernel_rfl) (by kernel_rfl)) ?_
  intro W base args ds gs before hval0 hW hcnd _
  exact law_contract (H := H) (enc := enc) (s := Rows.payKnownSpec) (fn := Try.f5) tab_ok (by kernel_rfl) rfl (n := 8) (Ks := kinds) (by kernel_rfl) (by kernel_rfl) (rt := 4) (by kernel_rfl) (by kernel_rfl)
    (fun ds h => by
      have h' : ds.length = 1 := h
      obtain ⟨d0, rfl⟩ := len1 h'
      exact ⟨rfl, rfl, rfl⟩) runs W base args ds gs before hval0 hW

theorem over : Rows.payKnownRow.holds Try.pinned (OpenSpec.ofChange Rows.payKnownSpec) :=
  OpenClaim.holds_of_wide 5 Try.f5 rfl rfl rfl rfl rfl rfl rfl ⟨rfl, rfl, rfl, rfl, rfl⟩ rfl rfl rfl rfl rfl (by kernel_rfl) Try.func5 (by kernel_rfl)
    (of_decide_eq_true (by kernel_rfl)) (by unfold Func.isWrapper; first | (rw [if_pos (by decide +kernel)]; kernel_rfl) | (rw [if_neg (by decide +kernel)]; exact ⟨rfl, rfl⟩))
    (fun os started H enc _ => lifted os started H enc)

/-- ████ THE STATEMENT ████ -/
theorem proved : Rows.PayKnownSaid :=
  over
#print axioms proved
end Go.Proofs.Ytgckkedngcplmaa.payKnown
