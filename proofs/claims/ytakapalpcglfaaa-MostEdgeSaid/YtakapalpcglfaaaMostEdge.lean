/- The statement 'Rows.MostEdgeSaid': its function is run by the pure machine on data of its parameters' kinds; it gives true. No condition. -/
import Derived.Test.YtakapalpcglfaaaRows
import Derived.Test.YtakapalpcglfaaaMf
import Derived.WalkKit
import Derived.ProofKit
import Derived.OpenShut
import Derived.ShutString
namespace Go.Proofs.Ytakapalpcglfaaa.mostEdge
open Go Go.Proofs Go.ChangeShapes Go.WideShapes Go.ChangeAt Go.RowKit Vm
set_option linter.unusedVariables false
set_option linter.unusedSimpArgs false

theorem own : ownKnob Try.prog.godebug = none := by kernel_rfl

def kinds : List Kd := [.struct [.slice (.struct [.int .i64, .int .i64, .int .i64]), .slice (.slice (.int .i64)), .slice (.int .i64), .slice (.slice (.int .i64))], .int .i64, .int .i64, .int .i64, .int .i64]
theorem mat_of {l : List (List DV)} (h : ∀ x ∈ l, ∃ es, x = [.sla false 1 es] ∧ ∀ y ∈ es, ∃ n, y = [.int .i64 n] ∧ (Lit.int .i64 n).wf = true) : Mat l := fun e he => by
  obtain ⟨es, rfl, hes⟩ := h e he
  refine ⟨rfl, rfl, fun r hr => ?_⟩
  obtain ⟨n, rfl, w⟩ := hes r hr
  exact ⟨rfl, wf_i64 w⟩
theorem runsS (xs : List DV) (h : KVs kinds xs) : Ent Try.prog 8 xs (.bool true) := by
  simp only [kinds, KVs, KV, KC, KCs] at h
  obtain ⟨x, _, rfl, ⟨ys, rfl, _, _, rfl, ⟨ac, rfl, ha⟩, _, _, rfl, ⟨bs, rfl, hb⟩, _, _, rfl, ⟨ms, rfl, hm⟩, _, _, rfl, ⟨qs, rfl, hq⟩, rfl⟩, _, _, rfl, ⟨f, hf, _⟩, _, _, rfl, ⟨t, ht, _⟩, _, _, rfl, ⟨c, hc, _⟩, _, _, rfl, ⟨x, hx, _⟩, rfl⟩ := h
  cases hf
  cases ht
  cases hc
  cases hx
  have hT : TY ac bs ms qs := by
    refine ⟨fun e he => ?_, mat_of hb, fun e he => ?_, mat_of hq⟩
    · obtain ⟨_, _, rfl, ⟨a0, rfl, _⟩, _, _, rfl, ⟨a1, rfl, _⟩, _, _, rfl, ⟨a2, rfl, _⟩, rfl⟩ := ha e he
      rfl
    · obtain ⟨n, rfl, w⟩ := hm e he
      exact ⟨rfl, wf_i64 w⟩
  refine of_FK tab_ok spEd_ok (L := 20) (n := 0 + 8) ((t8 20 0 ac bs ms qs f t c x).trans ?_)
  refine (need_pos ⟨_, _, _, _, rfl, hT⟩).trans ?_
  cases hk : isBk ac bs ms qs with
  | false => rfl
  | true =>
    have hB := BK.of hT hk
    have nF : ∀ a, fitS.D [.agg (bk ac bs ms qs), .sl .tight 7 [[.int .i64 1, .int .i64 f, .int .i64 t, .int .i64 a, .int .i64 c, .int .i64 0, .int .i64 0]]] := fun a => ⟨_, _, _, _, _, _, _, _, _, _, _, _, rfl, hB⟩
    refine (need_pos ⟨_, _, _, _, _, _, _, rfl, hB⟩).trans ?_
    rcases of_cases hB f t c with ⟨k1, k2⟩ | ⟨k1, k2, k3, k4⟩
    · rw [k2, k1]
      exact (need_pos (nF 1)).trans (need_pos rfl)
    · generalize ofI ac bs ms qs f t c = n at *
      rw [decide_eq_false (show ¬ n < 0 by omega), decide_eq_false (show ¬ n > 1099511627776 by omega)]
      refine (need_pos (nF 1)).trans ?_
      rw [k1, decide_eq_true (show n > 0 by omega), show (n == 0) = false from beq_eq_false_iff_ne.2 (by omega), show (!(true == true)) = false from rfl, cond_false, cond_false]
      refine (need_pos (nF n)).trans ?_
      rw [k4 n k2, decide_eq_true (Int.le_refl n), show IntKind.i64.wrap (n + 1) = n + 1 from wrap_fits (by omega) (by omega), Bool.not_true, cond_false]
      refine (need_pos (nF (n + 1))).trans ?_
      rw [k4 (n + 1) (by omega), decide_eq_false (show ¬ n + 1 ≤ n by omega), cond_false, decide_eq_false (show ¬ n = 0 by omega), cond_false]
      have hg : (BitVec.ofInt IntKind.i64.bits x &&& BitVec.ofInt IntKind.i64.bits (1099511627775 : Int)).toNat ≤ 1099511627775 := by
        rw [BitVec.toNat_and]
        exact Nat.and_le_right
      generalize (BitVec.ofInt IntKind.i64.bits x &&& BitVec.ofInt IntKind.i64.bits (1099511627775 : Int)).toNat = g at *
      rw [show IntKind.i64.wrap ((g : Nat) : Int) = (g : Int) from wrap_fits (by omega) (by omega), Int.tmod_eq_emod_of_nonneg (by omega)]
      have m1 := Int.emod_nonneg (g : Int) (show n ≠ 0 by omega)
      have m2 := Int.emod_lt_of_pos (g : Int) (show 0 < n by omega)
      generalize (g : Int) % n = m at *
      rw [show IntKind.i64.wrap (1 + m) = 1 + m from wrap_fits (by omega) (by omega)]
      refine (need_pos (nF _)).trans ?_
      rw [k4 (1 + m) (by omega), decide_eq_true (show 1 + m ≤ n by omega), cond_true]
      exact need_pos rfl

set_option maxRecDepth 100000 in
theorem lifted (os : Os) (started : os.Started) (H : Type) (enc : TypeId × Value → H) :
    ReturnsInHanded {} Try.checked os 8 .any (Rows.mostEdgeSpec.pre6 enc Try.prog Try.f8 Rows.mostEdgeRow.domain false) (Rows.mostEdgeSpec.post enc Try.prog Try.f8 false true false false) := by
  refine returnsInHanded_of_change (C := Try.checked) own started (by kernel_rfl) Try.func8
    (ChangeSpec.witness6 (enc := enc) (C := Try.checked) false ⟨#[], #[.agg #[.slice none 0 0, .slice none 0 0, .slice none 0 0, .slice none 0 0], .int .i64 0, .int .i64 0, .int .i64 0, .int .i64 0], []⟩ 8 (by kernel_rfl) (by kernel_rfl) (by kernel_rfl) (by kernel_rfl)) ?_
  intro W base args ds gs before hval0 hW hcnd _
  exact law_contract (H := H) (enc := enc) (s := Rows.mostEdgeSpec) (fn := Try.f8) (by kernel_rfl) rfl (n := 8) (Ks := kinds) (by kernel_rfl) (by kernel_rfl) (rt := 4) (by kernel_rfl) (by kernel_rfl)
    (fun ds h => by
      have h' : ds.length = 5 := h
      obtain ⟨d0, d1, d2, d3, d4, rfl⟩ := len5 h'
      exact ⟨rfl, rfl, rfl⟩) runsS W base args ds gs before hval0 hW

theorem over : Rows.mostEdgeRow.holds Try.pinned (OpenSpec.ofChange Rows.mostEdgeSpec) :=
  OpenClaim.holds_of_wide 8 Try.f8 rfl rfl rfl rfl rfl rfl rfl ⟨rfl, rfl, rfl, rfl, rfl⟩ rfl rfl rfl rfl rfl (by kernel_rfl) Try.func8 (by kernel_rfl)
    (of_decide_eq_true (by kernel_rfl)) (by unfold Func.isWrapper; first | (rw [if_pos (by decide +kernel)]; kernel_rfl) | (rw [if_neg (by decide +kernel)]; exact ⟨rfl, rfl⟩))
    (fun os started H enc _ => lifted os started H enc)

/-- ████ THE STATEMENT ████ -/
theorem proved : Rows.MostEdgeSaid :=
  over
#print axioms proved
end Go.Proofs.Ytakapalpcglfaaa.mostEdge
