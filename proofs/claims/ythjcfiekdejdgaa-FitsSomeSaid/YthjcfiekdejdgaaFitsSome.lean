/- The statement 'Rows.FitsSomeSaid': its function is run by the pure machine on data of its parameters' kinds; it gives true. No condition. -/
import Derived.Test.YthjcfiekdejdgaaRows
import Derived.Test.YthjcfiekdejdgaaHf
import Derived.WalkKit
import Derived.ProofKit
import Derived.OpenShut
import Derived.ShutString
namespace Go.Proofs.Ythjcfiekdejdgaa.fitsSome
open Go Go.Proofs Go.ChangeShapes Go.WideShapes Go.ChangeAt Go.RowKit Vm
set_option linter.unusedVariables false
set_option linter.unusedSimpArgs false

theorem own : ownKnob Try.prog.godebug = none := by kernel_rfl

def kinds : List Kd := [.slice (.int .i64), .int .i64, .slice (.struct [.int .i64, .int .i64, .int .i64, .int .i64, .int .i64, .int .i64, .int .i64])]
theorem runsS (xs : List DV) (h : KVs kinds xs) : Ent Try.prog 4 xs (.bool true) := by
  simp only [kinds, KVs, KV, KC, KCs] at h
  obtain ⟨x, _, rfl, ⟨hv, hx, hes⟩, _, _, rfl, ⟨w, hw, _⟩, _, _, rfl, ⟨l, hl', hls⟩, rfl⟩ := h
  cases hx
  cases hw
  cases hl'
  have hz1 : ∀ e ∈ hv, okRow z1 e = true := fun e he => by
    obtain ⟨n, rfl, _⟩ := hes e he
    rfl
  have hz : ∀ e ∈ l, okRow z7 e = true := fun e he => by
    obtain ⟨_, _, rfl, ⟨a0, rfl, _⟩, _, _, rfl, ⟨a1, rfl, _⟩, _, _, rfl, ⟨a2, rfl, _⟩, _, _, rfl, ⟨a3, rfl, _⟩, _, _, rfl, ⟨a4, rfl, _⟩, _, _, rfl, ⟨a5, rfl, _⟩, _, _, rfl, ⟨a6, rfl, _⟩, rfl⟩ := hls e he
    rfl
  refine of_FK tab_ok spH_ok (L := 20) (n := 0 + 8) ((t4 0 hv l w).trans ?_)
  refine cond_of (fun _ => rfl) (fun h => ?_)
  have hl : l.length ≤ 30 := by
    have := of_decide_eq_false h
    omega
  have hr := rowL_len (l := l)
  have hp := (rowL_RN l).po
  refine (need_pos (someD hz1 w)).trans ((need_pos (rowD hz hl)).trans ((need_pos (fitD hv w (by omega) hp)).trans ((need_pos (fitD hv w (by omega) hp)).trans ?_)))
  rw [beq_self_eq_true, cond_true]
  exact (need_pos (shoD hv w (by omega) hp)).trans ((need_pos (shoD hv w (by omega) hp)).trans ((need_pos ⟨_, _, rfl, Sl.sla _ _ _, Sl.sla _ _ _, rfl, shW_len hv w _, outL_ok _ _⟩).trans (need_pos rfl)))

set_option maxRecDepth 100000 in
theorem lifted (os : Os) (started : os.Started) (H : Type) (enc : TypeId × Value → H) :
    ReturnsInHanded {} Try.checked os 4 .any (Rows.fitsSomeSpec.pre6 enc Try.prog Try.f4 Rows.fitsSomeRow.domain false) (Rows.fitsSomeSpec.post enc Try.prog Try.f4 false true false false) := by
  refine returnsInHanded_of_change (C := Try.checked) own started (by kernel_rfl) Try.func4
    (ChangeSpec.witness6 (enc := enc) (C := Try.checked) false ⟨#[], #[.slice none 0 0, .int .i64 0, .slice none 0 0], []⟩ 8 (by kernel_rfl) (by kernel_rfl) (by kernel_rfl) (by kernel_rfl)) ?_
  intro W base args ds gs before hval0 hW hcnd _
  exact law_contract (H := H) (enc := enc) (s := Rows.fitsSomeSpec) (fn := Try.f4) (by kernel_rfl) rfl (n := 8) (Ks := kinds) (by kernel_rfl) (by kernel_rfl) (rt := 4) (by kernel_rfl) (by kernel_rfl)
    (fun ds h => by
      have h' : ds.length = 3 := h
      obtain ⟨d0, d1, d2, rfl⟩ := len3 h'
      exact ⟨rfl, rfl, rfl⟩) runsS W base args ds gs before hval0 hW

theorem over : Rows.fitsSomeRow.holds Try.pinned (OpenSpec.ofChange Rows.fitsSomeSpec) :=
  OpenClaim.holds_of_wide 4 Try.f4 rfl rfl rfl rfl rfl rfl rfl ⟨rfl, rfl, rfl, rfl, rfl⟩ rfl rfl rfl rfl rfl (by kernel_rfl) Try.func4 (by kernel_rfl)
    (of_decide_eq_true (by kernel_rfl)) (by unfold Func.isWrapper; first | (rw [if_pos (by decide +kernel)]; kernel_rfl) | (rw [if_neg (by decide +kernel)]; exact ⟨rfl, rfl⟩))
    (fun os started H enc _ => lifted os started H enc)

/-- ████ THE STATEMENT ████ -/
theorem proved : Rows.FitsSomeSaid :=
  over
#print axioms proved
end Go.Proofs.Ythjcfiekdejdgaa.fitsSome
