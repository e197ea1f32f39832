/- The statement 'Rows.RowIsSaid': its function is run by the pure machine on data of its parameters' kinds; it gives true. No condition. -/
import Derived.Test.YtngghbloijkfoaaRows
import Derived.Test.YtngghbloijkfoaaRd
import Derived.WalkKit
import Derived.ProofKit
import Derived.OpenShut
import Derived.ShutString
namespace Go.Proofs.Ytngghbloijkfoaa.rowIs
open Go Go.Proofs Go.ChangeShapes Go.WideShapes Go.ChangeAt Go.RowKit Vm
set_option linter.unusedVariables false
set_option linter.unusedSimpArgs false

theorem own : ownKnob Try.prog.godebug = none := by kernel_rfl

def kinds : List Kd := [.slice (.struct [.int .i64, .int .i64, .int .i64, .int .i64, .int .i64, .int .i64, .int .i64])]
theorem l6 (L n : Nat) (es : List (List DV)) : FK tab spL7 lsp0 L (n+8) 6 [.sla false 7 es] =
   (bif decide ((↑es.length : Int) > (100 : Int)) then some (DV.bool true)
    else
      need (isPS.D [DV.sla false (7 : Nat) es])
        (need (isPS.D [DV.sla false (7 : Nat) es]) (bif isP es == isP es then need (kno7.D []) (some (DV.bool true)) else some (DV.bool false)))) :=
  (show FK tab spL7 lsp0 L (n+8) 6 [.sla false 7 es] =
    (cond (decide ((↑es.length : Int) > (100 : Int)))
     (some (.bool true))
     (need (FSpec.D (isPS) [(.sla false 7 es)])
      (need (FSpec.D (isPS) [(.sla false 7 es)])
       (cond (isP (rowsA (DV.sla false (7 : Nat) es)) == isP (rowsA (DV.sla false (7 : Nat) es)))
        (need (FSpec.D (kno7) [])
         (some (.bool true))
        )
        (some (.bool false))
       )
      )
     )
    ) from by kernel_rfl).trans (by first | rfl | (simp only [decide_true, decide_false, eq_self, and_true, true_and, and_self, cond_true, cond_false, Nat.le_refl, Int.le_refl, Option.getD_some, Option.getD_none, Int.toNat_natCast, List.take_length, List.drop_zero, Nat.zero_add, List.nil_append, List.all_nil, List.append_nil, Bool.true_and, Bool.and_true, rowsA_sla, rowsA_sl, rowsA_nil, minus_zero, nat_le_cast, nat_nonneg, Option.isSome_some, Option.isSome_none, Bool.false_eq_true, false_and, and_false, if_true, if_false, implies_true, Int.toNat_zero, Bool.not_false, Bool.not_true, bne_self_eq_false]; done) | (simp only [decide_true, decide_false, eq_self, and_true, true_and, and_self, cond_true, cond_false, Nat.le_refl, Int.le_refl, Option.getD_some, Option.getD_none, Int.toNat_natCast, List.take_length, List.drop_zero, Nat.zero_add, List.nil_append, List.all_nil, List.append_nil, Bool.true_and, Bool.and_true, rowsA_sla, rowsA_sl, rowsA_nil, minus_zero, nat_le_cast, nat_nonneg, Option.isSome_some, Option.isSome_none, Bool.false_eq_true, false_and, and_false, if_true, if_false, implies_true, Int.toNat_zero, Bool.not_false, Bool.not_true, bne_self_eq_false]; rfl))
theorem runsS (xs : List DV) (h : KVs kinds xs) : Ent Try.prog 6 xs (.bool true) := by
  simp only [kinds, KVs, KV, KC] at h
  obtain ⟨x, _, rfl, ⟨es, hx, hes⟩, rfl⟩ := h
  cases hx
  have hz : ∀ e ∈ es, okRow z7 e = true := fun e he => by
    obtain ⟨_, _, rfl, ⟨a0, rfl, _⟩, _, _, rfl, ⟨a1, rfl, _⟩, _, _, rfl, ⟨a2, rfl, _⟩, _, _, rfl, ⟨a3, rfl, _⟩, _, _, rfl, ⟨a4, rfl, _⟩, _, _, rfl, ⟨a5, rfl, _⟩, _, _, rfl, ⟨a6, rfl, _⟩, rfl⟩ := hes e he
    rfl
  refine of_FK tab_ok spL7_ok (L := 20) (n := 0 + 8) ((l6 20 0 es).trans ?_)
  refine cond_of (fun _ => rfl) (fun h => ?_)
  have hl : es.length ≤ 100 := by
    have := of_decide_eq_false h
    omega
  have nP : ∀ x, need (isPS.D [DV.sla false (7 : Nat) es]) x = x := fun x => need_pos ⟨_, rfl, Sl.sla _ _ _, hz, by rw [rowsA_sla]; omega⟩
  rw [nP, nP, beq_self_eq_true, cond_true]
  exact need_pos rfl

set_option maxRecDepth 100000 in
theorem lifted (os : Os) (started : os.Started) (H : Type) (enc : TypeId × Value → H) :
    ReturnsInHanded {} Try.checked os 6 .any (Rows.rowIsSpec.pre6 enc Try.prog Try.f6 Rows.rowIsRow.domain false) (Rows.rowIsSpec.post enc Try.prog Try.f6 false true false false) := by
  refine returnsInHanded_of_change (C := Try.checked) own started (by kernel_rfl) Try.func6
    (ChangeSpec.witness6 (enc := enc) (C := Try.checked) false ⟨#[], #[.slice none 0 0], []⟩ 8 (by kernel_rfl) (by kernel_rfl) (by kernel_rfl) (by kernel_rfl)) ?_
  intro W base args ds gs before hval0 hW hcnd _
  exact law_contract (H := H) (enc := enc) (s := Rows.rowIsSpec) (fn := Try.f6) (by kernel_rfl) rfl (n := 8) (Ks := kinds) (by kernel_rfl) (by kernel_rfl) (rt := 4) (by kernel_rfl) (by kernel_rfl)
    (fun ds h => by
      have h' : ds.length = 1 := h
      obtain ⟨d0, rfl⟩ := len1 h'
      exact ⟨rfl, rfl, rfl⟩) runsS W base args ds gs before hval0 hW

theorem over : Rows.rowIsRow.holds Try.pinned (OpenSpec.ofChange Rows.rowIsSpec) :=
  OpenClaim.holds_of_wide 6 Try.f6 rfl rfl rfl rfl rfl rfl rfl ⟨rfl, rfl, rfl, rfl, rfl⟩ rfl rfl rfl rfl rfl (by kernel_rfl) Try.func6 (by kernel_rfl)
    (of_decide_eq_true (by kernel_rfl)) (by unfold Func.isWrapper; first | (rw [if_pos (by decide +kernel)]; kernel_rfl) | (rw [if_neg (by decide +kernel)]; exact ⟨rfl, rfl⟩))
    (fun os started H enc _ => lifted os started H enc)

/-- ████ THE STATEMENT ████ -/
theorem proved : Rows.RowIsSaid :=
  over
#print axioms proved
end Go.Proofs.Ytngghbloijkfoaa.rowIs
