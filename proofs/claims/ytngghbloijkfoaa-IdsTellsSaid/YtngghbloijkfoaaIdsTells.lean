/- The statement 'Rows.IdsTellsSaid': its function is run by the pure machine on data of its parameters' kinds; it gives true. No condition. -/
import Derived.Test.YtngghbloijkfoaaRows
import Derived.Test.YtngghbloijkfoaaIc
import Derived.WalkKit
import Derived.ProofKit
import Derived.OpenShut
import Derived.ShutString
namespace Go.Proofs.Ytngghbloijkfoaa.idsTells
open Go Go.Proofs Go.ChangeShapes Go.WideShapes Go.ChangeAt Go.RowKit Vm
set_option linter.unusedVariables false
set_option linter.unusedSimpArgs false

theorem own : ownKnob Try.prog.godebug = none := by kernel_rfl

def kinds : List Kd := [.slice (.int .i64), .int .i64]
theorem l3 (L n : Nat) (es : List (List DV)) (id : Int) : FK tab spL lx L (n+8) 3 [.sla false 1 es, .int .i64 id] =
   (bif decide ((↑es.length : Int) > (300 : Int)) then some (DV.bool true)
    else
      need (isF.D [DV.sla false (1 : Nat) es])
        (need (isF.D [DV.sla false (1 : Nat) es])
          (bif bif !isB es == isB es then true else !isB es then
            need (isF.D [DV.sla false (1 : Nat) es]) (bif isB es == isB es then need (knoS.D []) (some (DV.bool true)) else some (DV.bool false))
          else
            need (addS.D [DV.sla false (1 : Nat) es, DV.int IntKind.i64 id])
              (need (addS.D [DV.sla false (1 : Nat) es, DV.int IntKind.i64 id])
                (need (samS.D [DV.sla false (1 : Nat) (addL es id), DV.sla false (1 : Nat) (addL es id)])
                  (bif bif sameB (addL es id) (addL es id) then addE es id == addE es id else false then
                    need (hasA.D [DV.sla false (1 : Nat) es, DV.int IntKind.i64 id])
                      (need (hasS.D [DV.sla false (1 : Nat) es, DV.int IntKind.i64 id])
                        (bif hasB es id == hasB es id then need (knoS.D []) (some (DV.bool true)) else some (DV.bool false)))
                  else some (DV.bool false))))))) :=
  (show FK tab spL lx L (n+8) 3 [.sla false 1 es, .int .i64 id] =
    (cond (decide ((↑es.length : Int) > (300 : Int)))
     (some (.bool true))
     (need (FSpec.D (isF) [(.sla false 1 es)])
      (need (FSpec.D (isF) [(.sla false 1 es)])
       (cond (bif !isB (rowsA (DV.sla false (1 : Nat) es)) == isB (rowsA (DV.sla false (1 : Nat) es)) then true else !isB (rowsA (DV.sla false (1 : Nat) es)))
        (need (FSpec.D (isF) [(.sla false 1 es)])
         (cond (isB (rowsA (DV.sla false (1 : Nat) es)) == isB (rowsA (DV.sla false (1 : Nat) es)))
          (need (FSpec.D (knoS) [])
           (some (.bool true))
          )
          (some (.bool false))
         )
        )
        (need (FSpec.D (addS) [(.sla false 1 es), (.int .i64 id)])
         (need (FSpec.D (addS) [(.sla false 1 es), (.int .i64 id)])
          (need (FSpec.D (samS) [(.sla false 1 (addL (rowsA (DV.sla false (1 : Nat) es)) id)), (.sla false 1 (addL (rowsA (DV.sla false (1 : Nat) es)) id))])
           (cond (bif sameB (rowsA (DV.sla false (1 : Nat) (addL (rowsA (DV.sla false (1 : Nat) es)) id))) (rowsA (DV.sla false (1 : Nat) (addL (rowsA (DV.sla false (1 : Nat) es)) id))) then addE (rowsA (DV.sla false (1 : Nat) es)) id == addE (rowsA (DV.sla false (1 : Nat) es)) id else false)
            (need (FSpec.D (hasA) [(.sla false 1 es), (.int .i64 id)])
             (need (FSpec.D (hasS) [(.sla false 1 es), (.int .i64 id)])
              (cond (hasB (rowsA (DV.sla false (1 : Nat) es)) id == hasB (rowsA (DV.sla false (1 : Nat) es)) id)
               (need (FSpec.D (knoS) [])
                (some (.bool true))
               )
               (some (.bool false))
              )
             )
            )
            (some (.bool false))
           )
          )
         )
        )
       )
      )
     )
    ) from by kernel_rfl).trans (by first | rfl | simp only [decide_true, decide_false, eq_self, and_true, true_and, and_self, cond_true, cond_false, Nat.le_refl, Int.le_refl, Option.getD_some, Option.getD_none, Int.toNat_natCast, List.take_length, List.drop_zero, Nat.zero_add, List.nil_append, List.all_nil, List.append_nil, Bool.true_and, Bool.and_true, rowsA_sla, rowsA_sl, rowsA_nil, minus_zero, nat_le_cast, nat_nonneg, Option.isSome_some, Option.isSome_none, Bool.false_eq_true, false_and, and_false, if_true, if_false, implies_true, Int.toNat_zero, Bool.not_false, Bool.not_true])
theorem runsS (xs : List DV) (h : KVs kinds xs) : Ent Try.prog 3 xs (.bool true) := by
  simp only [kinds, KVs, KV, KC] at h
  obtain ⟨x, _, rfl, ⟨es, hx, hes⟩, _, _, rfl, ⟨id, hi, _⟩, rfl⟩ := h
  cases hi
  cases hx
  refine of_FK tab_ok spL_ok (L := 20) (n := 0 + 8) ((l3 20 0 es id).trans ?_)
  refine cond_of (fun _ => rfl) (fun h => ?_)
  have hl : es.length ≤ 300 := by
    have := of_decide_eq_false h
    omega
  have hz : ∀ e ∈ es, okRow z1 e = true := fun e he => by
    obtain ⟨a, rfl, hw⟩ := hes e he
    rfl
  have hI : I1 1000 (.sla false 1 es) := ⟨Sl.sla _ _ _, hz, by simp only [rowsA]; omega⟩
  have nF : ∀ x, need (isF.D [DV.sla false (1 : Nat) es]) x = x := fun x => need_pos ⟨_, rfl, hI⟩
  simp only [nF]
  cases hb : isB es with
  | false => exact need_pos rfl
  | true =>
    have ha := (isB_asc hb).1
    have hI2 : I1 1000 (.sla false 1 (addL es id)) := ⟨Sl.sla _ _ _, add_rows hz id, by
      have := add_len es id
      simp only [rowsA]
      omega⟩
    have nA : ∀ x, need (addS.D [DV.sla false (1 : Nat) es, DV.int IntKind.i64 id]) x = x := fun x => need_pos ⟨_, _, rfl, hI, ha⟩
    simp only [nA]
    refine (need_pos ⟨_, _, rfl, hI2, hI2⟩).trans ?_
    rw [show sameB (addL es id) (addL es id) = true by simp [sameB]]
    refine (show _ = _ from by simp only [beq_self_eq_true, cond_true] : _ = (need (hasA.D [DV.sla false (1 : Nat) es, DV.int IntKind.i64 id]) (need (hasS.D [DV.sla false (1 : Nat) es, DV.int IntKind.i64 id]) (need (knoS.D []) (some (DV.bool true)))))).trans ?_
    exact (need_pos ⟨_, _, rfl, hI, ha⟩).trans ((need_pos ⟨_, _, rfl, hI⟩).trans (need_pos rfl))

set_option maxRecDepth 100000 in
theorem lifted (os : Os) (started : os.Started) (H : Type) (enc : TypeId × Value → H) :
    ReturnsInHanded {} Try.checked os 3 .any (Rows.idsTellsSpec.pre6 enc Try.prog Try.f3 Rows.idsTellsRow.domain false) (Rows.idsTellsSpec.post enc Try.prog Try.f3 false true false false) := by
  refine returnsInHanded_of_change (C := Try.checked) own started (by kernel_rfl) Try.func3
    (ChangeSpec.witness6 (enc := enc) (C := Try.checked) false ⟨#[], #[.slice none 0 0, .int .i64 0], []⟩ 8 (by kernel_rfl) (by kernel_rfl) (by kernel_rfl) (by kernel_rfl)) ?_
  intro W base args ds gs before hval0 hW hcnd _
  exact law_contract (H := H) (enc := enc) (s := Rows.idsTellsSpec) (fn := Try.f3) (by kernel_rfl) rfl (n := 8) (Ks := kinds) (by kernel_rfl) (by kernel_rfl) (rt := 4) (by kernel_rfl) (by kernel_rfl)
    (fun ds h => by
      have h' : ds.length = 2 := h
      obtain ⟨d0, d1, rfl⟩ := len2 h'
      exact ⟨rfl, rfl, rfl⟩) runsS W base args ds gs before hval0 hW

theorem over : Rows.idsTellsRow.holds Try.pinned (OpenSpec.ofChange Rows.idsTellsSpec) :=
  OpenClaim.holds_of_wide 3 Try.f3 rfl rfl rfl rfl rfl rfl rfl ⟨rfl, rfl, rfl, rfl, rfl⟩ rfl rfl rfl rfl rfl (by kernel_rfl) Try.func3 (by kernel_rfl)
    (of_decide_eq_true (by kernel_rfl)) (by unfold Func.isWrapper; first | (rw [if_pos (by decide +kernel)]; kernel_rfl) | (rw [if_neg (by decide +kernel)]; exact ⟨rfl, rfl⟩))
    (fun os started H enc _ => lifted os started H enc)

/-- ████ THE STATEMENT ████ -/
theorem proved : Rows.IdsTellsSaid :=
  over
#print axioms proved
end Go.Proofs.Ytngghbloijkfoaa.idsTells
