/- Small facts on numbers and branches for the laws: when a number fits its kind it is not turned. No condition. -/
import Derived.Test.YtjejjokdbbedlaaVmP
import Derived.DataShut
namespace Go.Proofs.Ytjejjokdbbedlaa.Vm
open Go Go.RowKit

theorem wrap_i64 (n : Int) : IntKind.i64.wrap n = (if n % 18446744073709551616 ≥ 9223372036854775808 then n % 18446744073709551616 - 18446744073709551616 else n % 18446744073709551616) := by
  simp [IntKind.wrap, IntKind.bits, IntKind.signed]
theorem wrap_fits {n : Int} (h1 : -9223372036854775808 ≤ n) (h2 : n ≤ 9223372036854775807) : IntKind.i64.wrap n = n := by
  rw [wrap_i64]
  split <;> omega
theorem wf_i64 {n : Int} (h : (Lit.int .i64 n).wf = true) : -9223372036854775808 ≤ n ∧ n ≤ 9223372036854775807 := (Lit.wf_int_iff .i64 n).1 h
theorem cond_of {α : Type} {c : Bool} {a b r : α} (h1 : c = true → a = r) (h2 : c = false → b = r) : cond c a b = r := by
  cases c
  · exact h2 rfl
  · exact h1 rfl
end Go.Proofs.Ytjejjokdbbedlaa.Vm
