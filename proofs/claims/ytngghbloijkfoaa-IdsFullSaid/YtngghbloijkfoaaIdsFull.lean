/- The statement 'Rows.IdsFullSaid': its function is run by the pure machine on data of its parameters' kinds; it gives true. No condition. -/
import Derived.Test.YtngghbloijkfoaaRows
import Derived.Test.YtngghbloijkfoaaIc
import Derived.WalkKit
import Derived.ProofKit
import Derived.OpenShut
import Derived.ShutString
namespace Go.Proofs.Ytngghbloijkfoaa.idsFull
open Go Go.Proofs Go.ChangeShapes Go.WideShapes Go.ChangeAt Go.RowKit Vm
set_option linter.unusedVariables false
set_option linter.unusedSimpArgs false

theorem own : ownKnob Try.prog.godebug = none := by kernel_rfl

def kinds : List Kd := [.int .i64, .int .i64]
theorem l5 (F : List (List DV)) (L n : Nat) (m id : Int) : FK tab spL (lz F) L (n+8) 5 [.int .i64 m, .int .i64 id] =
   (bif bif bif decide (m < (0 : Int)) then true else decide (m > (20 : Int)) then true else decide (id < (1 : Int)) then some (DV.bool true)
    else
      need
        (LoopOk (LB tab spL (lz F) L (n + (8 : Nat)) h50 c5l0)
          (St.of
            [((0 : Nat), AV.d (DV.int IntKind.i64 m)), ((1 : Nat), AV.d (DV.int IntKind.i64 id)), ((5 : Nat), AV.d DV.nilsl),
              ((6 : Nat), AV.d (DV.int IntKind.i64 (1 : Int)))]
            [((31 : Nat), none)])
          (Ex.ex (0 : Nat), St.of [((1 : Nat), AV.d (DV.int IntKind.i64 id)), ((5 : Nat), AV.d (DV.sla false (1 : Nat) F))] [((31 : Nat), none)]))
        (need (addS.D [DV.sla false (1 : Nat) F, DV.int IntKind.i64 id])
          (bif (↑F.length : Int) == (200 : Int) then
            need (hasA.D [DV.sla false (1 : Nat) F, DV.int IntKind.i64 id])
              (bif bif (addE F id == (6 : Int)) == hasB F id then addE F id != (0 : Int) else false then need (knoS.D []) (some (DV.bool true))
              else some (DV.bool false))
          else some (DV.bool false)))) :=
  (show FK tab spL (lz F) L (n+8) 5 [.int .i64 m, .int .i64 id] =
    (cond (bif bif decide (m < (0 : Int)) then true else decide (m > (20 : Int)) then true else decide (id < (1 : Int)))
     (some (.bool true))
     (need (LoopOk (LB tab spL (lz F) L (n + (8 : Nat)) h50 c5l0) (St.of [(0, (.d (.int .i64 m))), (1, (.d (.int .i64 id))), (5, (.d .nilsl)), (6, (.d (.int .i64 ((1 : Int)))))] [(31, .none)]) ((.ex 0), (St.of [(1, (.d (.int .i64 id))), (5, (.d (.sla false 1 F)))] [(31, .none)])))
      (need (FSpec.D (addS) [(.sla false 1 F), (.int .i64 id)])
       (cond ((↑F.length : Int) == (200 : Int))
        (need (FSpec.D (hasA) [(.sla false 1 F), (.int .i64 id)])
         (cond (bif (addE (rowsA (DV.sla false (1 : Nat) F)) id == (6 : Int)) == hasB (rowsA (DV.sla false (1 : Nat) F)) id then addE (rowsA (DV.sla false (1 : Nat) F)) id != (0 : Int) else false)
          (need (FSpec.D (knoS) [])
           (some (.bool true))
          )
          (some (.bool false))
         )
        )
        (some (.bool false))
       )
      )
     )
    ) from by kernel_rfl).trans (by first | rfl | simp only [decide_true, decide_false, eq_self, and_true, true_and, and_self, cond_true, cond_false, Nat.le_refl, Int.le_refl, Option.getD_some, Option.getD_none, Int.toNat_natCast, List.take_length, List.drop_zero, Nat.zero_add, List.nil_append, List.all_nil, List.append_nil, Bool.true_and, Bool.and_true, rowsA_sla, rowsA_sl, rowsA_nil, minus_zero, nat_le_cast, nat_nonneg, Option.isSome_some, Option.isSome_none, Bool.false_eq_true, false_and, and_false, if_true, if_false, implies_true, Int.toNat_zero, Bool.not_false, Bool.not_true])
theorem runsS (xs : List DV) (h : KVs kinds xs) : Ent Try.prog 5 xs (.bool true) := by
  simp only [kinds, KVs, KV, KC] at h
  obtain ⟨x, _, rfl, ⟨m, hm, _⟩, _, _, rfl, ⟨id, hi, _⟩, rfl⟩ := h
  cases hi
  cases hm
  refine of_FK tab_ok spL_ok (L := 20) (n := 0 + 8) ((l5 (decL 200) 20 0 m id).trans ?_)
  refine cond_of (fun _ => rfl) (fun h => ?_)
  have h0 : ¬ m < 0 := fun h1 => by rw [decide_eq_true h1] at h; cases h
  rw [decide_eq_false h0, cond_false] at h
  have h20 : ¬ m > 20 := fun h1 => by rw [decide_eq_true h1] at h; cases h
  refine (need_pos (loop50 20 (0 + 4) m id (by omega) (by omega))).trans ?_
  have hb := decL_is (n := 200) (by omega)
  have hI : I1 1000 (.sla false 1 (decL 200)) := ⟨Sl.sla _ _ _, decL_ok _, by rw [rowsA_sla, decL_len]; omega⟩
  have ha := (isB_asc hb).1
  refine (need_pos ⟨_, _, rfl, hI, ha⟩).trans ?_
  have hl : (((decL 200).length : Nat) : Int) == 200 := by rw [decL_len]; rfl
  rw [hl, cond_true]
  refine (need_pos ⟨_, _, rfl, hI, ha⟩).trans ?_
  have k : need (knoS.D []) (some (DV.bool true)) = some (.bool true) := need_pos rfl
  rw [k]
  rcases add_cases hb id with ⟨g1, g2, g3⟩ | ⟨g1, g0, g2, g3⟩ | ⟨g1, g0, g2, g3⟩
  · rw [g1, g3]; rfl
  · rw [g1, g3]; rfl
  · rw [decL_len] at g0
    exact absurd g0 (by omega)

set_option maxRecDepth 100000 in
theorem lifted (os : Os) (started : os.Started) (H : Type) (enc : TypeId × Value → H) :
    ReturnsInHanded {} Try.checked os 5 .any (Rows.idsFullSpec.pre6 enc Try.prog Try.f5 Rows.idsFullRow.domain false) (Rows.idsFullSpec.post enc Try.prog Try.f5 false true false false) := by
  refine returnsInHanded_of_change (C := Try.checked) own started (by kernel_rfl) Try.func5
    (ChangeSpec.witness6 (enc := enc) (C := Try.checked) false ⟨#[], #[.int .i64 0, .int .i64 0], []⟩ 8 (by kernel_rfl) (by kernel_rfl) (by kernel_rfl) (by kernel_rfl)) ?_
  intro W base args ds gs before hval0 hW hcnd _
  exact law_contract (H := H) (enc := enc) (s := Rows.idsFullSpec) (fn := Try.f5) (by kernel_rfl) rfl (n := 8) (Ks := kinds) (by kernel_rfl) (by kernel_rfl) (rt := 4) (by kernel_rfl) (by kernel_rfl)
    (fun ds h => by
      have h' : ds.length = 2 := h
      obtain ⟨d0, d1, rfl⟩ := len2 h'
      exact ⟨rfl, rfl, rfl⟩) runsS W base args ds gs before hval0 hW

theorem over : Rows.idsFullRow.holds Try.pinned (OpenSpec.ofChange Rows.idsFullSpec) :=
  OpenClaim.holds_of_wide 5 Try.f5 rfl rfl rfl rfl rfl rfl rfl ⟨rfl, rfl, rfl, rfl, rfl⟩ rfl rfl rfl rfl rfl (by kernel_rfl) Try.func5 (by kernel_rfl)
    (of_decide_eq_true (by kernel_rfl)) (by unfold Func.isWrapper; first | (rw [if_pos (by decide +kernel)]; kernel_rfl) | (rw [if_neg (by decide +kernel)]; exact ⟨rfl, rfl⟩))
    (fun os started H enc _ => lifted os started H enc)

/-- ████ THE STATEMENT ████ -/
theorem proved : Rows.IdsFullSaid :=
  over
#print axioms proved
end Go.Proofs.Ytngghbloijkfoaa.idsFull
