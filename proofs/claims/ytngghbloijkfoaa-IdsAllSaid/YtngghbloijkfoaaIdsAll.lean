/- The statement 'Rows.IdsAllSaid': its function is run by the pure machine on data of its parameters' kinds; it gives true. No condition. -/
import Derived.Test.YtngghbloijkfoaaRows
import Derived.Test.YtngghbloijkfoaaIc
import Derived.WalkKit
import Derived.ProofKit
import Derived.OpenShut
import Derived.ShutString
namespace Go.Proofs.Ytngghbloijkfoaa.idsAll
open Go Go.Proofs Go.ChangeShapes Go.WideShapes Go.ChangeAt Go.RowKit Vm
set_option linter.unusedVariables false
set_option linter.unusedSimpArgs false

theorem own : ownKnob Try.prog.godebug = none := by kernel_rfl

def kinds : List Kd := [.slice (.int .i64)]
theorem l4 (L n : Nat) (es : List (List DV)) : FK tab spL ly L (n+8) 4 [.sla false 1 es] =
   (bif decide ((↑es.length : Int) > (250 : Int)) then some (DV.bool true)
    else
      need
        (LoopOk (LB tab spL ly L (n + (8 : Nat)) h40 c4l0)
          (St.of [((0 : Nat), AV.d (DV.sla false (1 : Nat) es)), ((3 : Nat), AV.d DV.nilsl), ((4 : Nat), AV.d (DV.int IntKind.i64 (0 : Int)))]
            [((32 : Nat), none)])
          (Ex.ex (0 : Nat), St.of [] []))
        (need (knoS.D []) (some (DV.bool true)))) :=
  (show FK tab spL ly L (n+8) 4 [.sla false 1 es] =
    (cond (decide ((↑es.length : Int) > (250 : Int)))
     (some (.bool true))
     (need (LoopOk (LB tab spL ly L (n + (8 : Nat)) h40 c4l0) (St.of [(0, (.d (.sla false 1 es))), (3, (.d .nilsl)), (4, (.d (.int .i64 ((0 : Int)))))] [(32, .none)]) ((.ex 0), (St.of [] [])))
      (need (FSpec.D (knoS) [])
       (some (.bool true))
      )
     )
    ) from by kernel_rfl).trans (by first | rfl | simp only [decide_true, decide_false, eq_self, and_true, true_and, and_self, cond_true, cond_false, Nat.le_refl, Int.le_refl, Option.getD_some, Option.getD_none, Int.toNat_natCast, List.take_length, List.drop_zero, Nat.zero_add, List.nil_append, List.all_nil, List.append_nil, Bool.true_and, Bool.and_true, rowsA_sla, rowsA_sl, rowsA_nil, minus_zero, nat_le_cast, nat_nonneg, Option.isSome_some, Option.isSome_none, Bool.false_eq_true, false_and, and_false, if_true, if_false, implies_true, Int.toNat_zero, Bool.not_false, Bool.not_true])
theorem runsS (xs : List DV) (h : KVs kinds xs) : Ent Try.prog 4 xs (.bool true) := by
  simp only [kinds, KVs, KV, KC] at h
  obtain ⟨x, _, rfl, ⟨es, hx, hes⟩, rfl⟩ := h
  cases hx
  refine of_FK tab_ok spL_ok (L := 20) (n := 0 + 8) ((l4 20 0 es).trans ?_)
  refine cond_of (fun _ => rfl) (fun h => ?_)
  have hl : es.length ≤ 250 := by
    have := of_decide_eq_false h
    omega
  have hz : ∀ e ∈ es, okRow z1 e = true := fun e he => by
    obtain ⟨a, rfl, hw⟩ := hes e he
    rfl
  exact (need_pos (loop40 20 (0 + 4) hz (by omega))).trans (need_pos rfl)

set_option maxRecDepth 100000 in
theorem lifted (os : Os) (started : os.Started) (H : Type) (enc : TypeId × Value → H) :
    ReturnsInHanded {} Try.checked os 4 .any (Rows.idsAllSpec.pre6 enc Try.prog Try.f4 Rows.idsAllRow.domain false) (Rows.idsAllSpec.post enc Try.prog Try.f4 false true false false) := by
  refine returnsInHanded_of_change (C := Try.checked) own started (by kernel_rfl) Try.func4
    (ChangeSpec.witness6 (enc := enc) (C := Try.checked) false ⟨#[], #[.slice none 0 0], []⟩ 8 (by kernel_rfl) (by kernel_rfl) (by kernel_rfl) (by kernel_rfl)) ?_
  intro W base args ds gs before hval0 hW hcnd _
  exact law_contract (H := H) (enc := enc) (s := Rows.idsAllSpec) (fn := Try.f4) (by kernel_rfl) rfl (n := 8) (Ks := kinds) (by kernel_rfl) (by kernel_rfl) (rt := 4) (by kernel_rfl) (by kernel_rfl)
    (fun ds h => by
      have h' : ds.length = 1 := h
      obtain ⟨d0, rfl⟩ := len1 h'
      exact ⟨rfl, rfl, rfl⟩) runsS W base args ds gs before hval0 hW

theorem over : Rows.idsAllRow.holds Try.pinned (OpenSpec.ofChange Rows.idsAllSpec) :=
  OpenClaim.holds_of_wide 4 Try.f4 rfl rfl rfl rfl rfl rfl rfl ⟨rfl, rfl, rfl, rfl, rfl⟩ rfl rfl rfl rfl rfl (by kernel_rfl) Try.func4 (by kernel_rfl)
    (of_decide_eq_true (by kernel_rfl)) (by unfold Func.isWrapper; first | (rw [if_pos (by decide +kernel)]; kernel_rfl) | (rw [if_neg (by decide +kernel)]; exact ⟨rfl, rfl⟩))
    (fun os started H enc _ => lifted os started H enc)

/-- ████ THE STATEMENT ████ -/
theorem proved : Rows.IdsAllSaid :=
  over
#print axioms proved
end Go.Proofs.Ytngghbloijkfoaa.idsAll
