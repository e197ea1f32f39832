/- The statement 'Rows.PayTimesSaid': its function is run by the pure machine on data of its parameters' kinds; it gives true. No condition. -/
import Derived.Test.YtgckkedngcplmaaRows
import Derived.Test.YtgckkedngcplmaaVmM
import Derived.Test.YtgckkedngcplmaaCode
import Derived.Test.YtgckkedngcplmaaVmQ
import Derived.WalkKit
import Derived.ProofKit
import Derived.OpenShut
import Derived.ShutString
namespace Go.Proofs.Ytgckkedngcplmaa.payTimes
open Go Go.Proofs Go.ChangeShapes Go.WideShapes Go.ChangeAt Go.RowKit Vm
set_option linter.unusedVariables false

theorem own : ownKnob Try.prog.godebug = none := by kernel_rfl

def kinds : List Kd := [.struct [.int .i64, .int .i64, .int .i64, .int .i64, .int .i64, .int .i64, .int .i64], .int .i64, .int .i64]
theorem tree (id fr to am cls stt till tick more : Int) : acallK tab 100 10 4 [.agg [.int .i64 id, .int .i64 fr, .int .i64 to, .int .i64 am, .int .i64 cls, .int .i64 stt, .int .i64 till], .int .i64 tick, .int .i64 more] some =
    (cond (bif bif bif decide (more < 0) then true else decide (more > 1099511627776) then true else decide (tick > 1099511627776) then true else decide (tick < -1099511627776))
 (some (.bool (true)))
 (cond (bif bif !bif bif decide (tick ≥ stt) then decide (tick ≤ till) else false then decide (tick > till) else false then bif !decide (tick > till) then true else decide (IntKind.i64.wrap (tick + more) > till) else false then bif bif bif decide (tick ≥ stt) then decide (tick ≤ till) else false then true else decide (tick > till) then true else decide (tick < stt) else false)
  (some (.bool (bif true then bif true then (7 : Int) == 7 else false else false)))
  (some (.bool (false))))) := by kernel_rfl
theorem runs (xs : List DV) (h : KVs kinds xs) : ∃ n L, acall tab L n 4 xs = some (.bool true) := by
  simp only [kinds, KVs, KV, KC, KCs] at h
  obtain ⟨x, xs', rfl, ⟨ps, rfl, _, _, rfl, ⟨id, rfl, _⟩, _, _, rfl, ⟨fr, rfl, _⟩, _, _, rfl, ⟨to, rfl, _⟩, _, _, rfl, ⟨am, rfl, _⟩, _, _, rfl, ⟨cls, rfl, _⟩, _, _, rfl, ⟨stt, rfl, _⟩, _, _, rfl, ⟨till, rfl, _⟩, rfl⟩, x2, xs2, rfl, ⟨tick, hx2, w1⟩, x3, xs3, rfl, ⟨more, hx3, w2⟩, rfl⟩ := h
  cases hx2
  cases hx3
  refine ⟨10, 100, acallK_run ((tree id fr to am cls stt till tick more).trans ?_)⟩
  by_cases h0 : more < 0 ∨ more > 1099511627776 ∨ tick > 1099511627776 ∨ tick < -1099511627776
  · have : (bif bif bif decide (more < 0) then true else decide (more > 1099511627776) then true else decide (tick > 1099511627776) then true else decide (tick < -1099511627776)) = true := by
      simp only [Bool.cond_eq_ite]
      simp
      omega
    rw [this]
    rfl
  · simp only [not_or] at h0
    obtain ⟨a1, a2, a3, a4⟩ := h0
    have hw : IntKind.i64.wrap (tick + more) = tick + more := wrap_fits (by omega) (by omega)
    simp only [hw, a1, a2, a3, a4, decide_false, cond_false]
    by_cases b1 : tick ≥ stt <;> by_cases b2 : tick ≤ till <;> by_cases b3 : tick > till <;> by_cases b4 : tick + more > till <;> by_cases b5 : tick < stt <;> simp [b1, b2, b3, b4, b5] <;> omega

set_option maxRecDepth 100000 in
theorem lifted (os : Os) (started : os.Started) (H : Type) (enc : TypeId × Value → H) :
    ReturnsInHanded {} Try.checked os 4 .any (Rows.payTimesSpec.pre6 enc Try.prog Try.f4 Rows.payTimesRow.domain false) (Rows.payTimesSpec.post enc Try.prog Try.f4 false true false false) := by
  refine returnsInHanded_of_change (C := Try.checked) own started (by kernel_rfl) Try.func4
    (ChangeSpec.witness6 (enc := enc) (C := Try.checked) false ⟨#[], #[.agg #[.int .i64 0, .int .i64 0, .int .i64 0, .int .i64 0, .int .i64 0, .int .i64 0, .int .i64 0], .int .i64 0, .int .i64 0], []⟩ 8 (by kernel_rfl) (by kernel_rfl) (by kernel_rfl) (by kernel_rfl)) ?_
  intro W base args ds gs before hval0 hW hcnd _
  exact law_contract (H := H) (enc := enc) (s := Rows.payTimesSpec) (fn := Try.f4) tab_ok (by kernel_rfl) rfl (n := 8) (Ks := kinds) (by kernel_rfl) (by kernel_rfl) (rt := 4) (by kernel_rfl) (by kernel_rfl)
    (fun ds h => by
      have h' : ds.length = 3 := h
      obtain ⟨d0, d1, d2, rfl⟩ := len3 h'
      exact ⟨rfl, rfl, rfl⟩) runs W base args ds gs before hval0 hW

theorem over : Rows.payTimesRow.holds Try.pinned (OpenSpec.ofChange Rows.payTimesSpec) :=
  OpenClaim.holds_of_wide 4 Try.f4 rfl rfl rfl rfl rfl rfl rfl ⟨rfl, rfl, rfl, rfl, rfl⟩ rfl rfl rfl rfl rfl (by kernel_rfl) Try.func4 (by kernel_rfl)
    (of_decide_eq_true (by kernel_rfl)) (by unfold Func.isWrapper; first | (rw [if_pos (by decide +kernel)]; kernel_rfl) | (rw [if_neg (by decide +kernel)]; exact ⟨rfl, rfl⟩))
    (fun os started H enc _ => lifted os started H enc)

/-- ████ THE STATEMENT ████ -/
theorem proved : Rows.PayTimesSaid :=
  over
#print axioms proved
end Go.Proofs.Ytgckkedngcplmaa.payTimes
