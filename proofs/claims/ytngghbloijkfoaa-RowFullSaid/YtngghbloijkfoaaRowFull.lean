/- The statement 'Rows.RowFullSaid': its function is run by the pure machine on data of its parameters' kinds; it gives true. No condition. -/
import Derived.Test.YtngghbloijkfoaaRows
import Derived.Test.YtngghbloijkfoaaRf
import Derived.WalkKit
import Derived.ProofKit
import Derived.OpenShut
import Derived.ShutString
namespace Go.Proofs.Ytngghbloijkfoaa.rowFull
open Go Go.Proofs Go.ChangeShapes Go.WideShapes Go.ChangeAt Go.RowKit Vm
set_option linter.unusedVariables false
set_option linter.unusedSimpArgs false

theorem own : ownKnob Try.prog.godebug = none := by kernel_rfl

def kinds : List Kd := [.int .i64]
theorem runsS (xs : List DV) (h : KVs kinds xs) : Ent Try.prog 7 xs (.bool true) := by
  simp only [kinds, KVs, KV, KC] at h
  obtain ⟨x, _, rfl, ⟨m, hm, _⟩, rfl⟩ := h
  cases hm
  refine of_FK tab_ok spF7_ok (L := 20) (n := 0 + 8) ((t7 (rl 40) 20 0 m).trans ?_)
  refine cond_of (fun _ => rfl) (fun h => ?_)
  have h0 : ¬ m < 0 := fun h1 => by rw [decide_eq_true h1] at h; cases h
  rw [decide_eq_false h0, cond_false] at h
  have h20 : ¬ m > 20 := of_decide_eq_false h
  refine (need_pos (loop70 20 (0 + 4) m (by omega) (by omega))).trans ?_
  obtain ⟨r1, r2, r3⟩ := rl_spec 40 (by omega)
  generalize rl 40 = F at *
  have hI : I7 1000 (.sla false 7 F) := ⟨Sl.sla _ _ _, r1, by rw [rowsA_sla]; omega⟩
  refine (need_pos ⟨_, _, rfl, hI⟩).trans ?_
  have h5 : 0 ≤ fI F 5 := by
    have := fI_any F 5
    rw [r3, decide_eq_true (show (1 : Int) ≤ 5 ∧ (5 : Int) ≤ (40 : Nat) by omega)] at this
    exact of_decide_eq_true this
  obtain ⟨hk, hid⟩ := fI_at F 5 h5
  have e1 : dropL F 5 = F.take (fI F 5).toNat ++ F.drop ((fI F 5).toNat + 1) := by
    unfold dropL delB
    rw [decide_eq_false (show ¬ fI F 5 < 0 by omega)]
    rfl
  have e2 : dropE F 5 = 0 := by
    unfold dropE
    rw [decide_eq_false (show ¬ fI F 5 < 0 by omega)]
    rfl
  have e3 : dropP F 5 = F[(fI F 5).toNat] := by
    unfold dropP
    rw [decide_eq_false (show ¬ fI F 5 < 0 by omega), List.getElem?_eq_getElem hk]
    rfl
  have hlen : (dropL F 5).length = 39 := by
    rw [e1, List.length_append, List.length_take, List.length_drop]
    omega
  have hrows : ∀ e ∈ dropL F 5, okRow z7 e = true := fun e he => by
    rw [e1] at he
    rcases List.mem_append.1 he with h | h
    · exact r1 e (List.mem_of_mem_take h)
    · exact r1 e (List.mem_of_mem_drop h)
  have hany : ∀ id : Int, id ≠ 5 → ((dropL F 5).any fun e => idO e == id) = (F.any fun e => idO e == id) := fun id hne => by
    have hF : (F.any fun e => idO e == id) = ((F.take (fI F 5).toNat).any (fun e => idO e == id) || ((idO F[(fI F 5).toNat] == id) || (F.drop ((fI F 5).toNat + 1)).any fun e => idO e == id)) := by
      rw [← List.any_cons (f := fun e => idO e == id), ← List.drop_eq_getElem_cons hk, ← List.any_append, List.take_append_drop]
    rw [hF, hid, show ((5 : Int) == id) = false from beq_eq_false_iff_ne.2 (Ne.symm hne), e1, List.any_append, Bool.false_or]
  have hI2 : I7 1000 (.sla false 7 (dropL F 5)) := ⟨Sl.sla _ _ _, hrows, by rw [rowsA_sla]; omega⟩
  refine (need_pos ⟨_, _, rfl, hI2, rfl⟩).trans ?_
  refine (need_pos ⟨_, _, rfl, hI2, rfl⟩).trans ?_
  have p1 : putE (dropL F 5) [.int .i64 900, .int .i64 0, .int .i64 0, .int .i64 0, .int .i64 1, .int .i64 0, .int .i64 0] = 0 := by
    unfold putE
    rw [fI_any, show idO [DV.int .i64 900, .int .i64 0, .int .i64 0, .int .i64 0, .int .i64 1, .int .i64 0, .int .i64 0] = 900 from rfl, hany 900 (by decide), r3, decide_eq_false (by omega), hlen]
    rfl
  have p2 : putE (dropL F 5) [.int .i64 6, .int .i64 0, .int .i64 0, .int .i64 0, .int .i64 0, .int .i64 0, .int .i64 0] = 6 := by
    unfold putE
    rw [fI_any, show idO [DV.int .i64 6, .int .i64 0, .int .i64 0, .int .i64 0, .int .i64 0, .int .i64 0, .int .i64 0] = 6 from rfl, hany 6 (by decide), r3, decide_eq_true (by omega)]
    rfl
  have p3 : (cellA (dropP F 5) 0).toI = 5 := by
    rw [e3]
    exact hid
  rw [p1, p2, p3, e2, r2]
  exact need_pos rfl

set_option maxRecDepth 100000 in
theorem lifted (os : Os) (started : os.Started) (H : Type) (enc : TypeId × Value → H) :
    ReturnsInHanded {} Try.checked os 7 .any (Rows.rowFullSpec.pre6 enc Try.prog Try.f7 Rows.rowFullRow.domain false) (Rows.rowFullSpec.post enc Try.prog Try.f7 false true false false) := by
  refine returnsInHanded_of_change (C := Try.checked) own started (by kernel_rfl) Try.func7
    (ChangeSpec.witness6 (enc := enc) (C := Try.checked) false ⟨#[], #[.int .i64 0], []⟩ 8 (by kernel_rfl) (by kernel_rfl) (by kernel_rfl) (by kernel_rfl)) ?_
  intro W base args ds gs before hval0 hW hcnd _
  exact law_contract (H := H) (enc := enc) (s := Rows.rowFullSpec) (fn := Try.f7) (by kernel_rfl) rfl (n := 8) (Ks := kinds) (by kernel_rfl) (by kernel_rfl) (rt := 4) (by kernel_rfl) (by kernel_rfl)
    (fun ds h => by
      have h' : ds.length = 1 := h
      obtain ⟨d0, rfl⟩ := len1 h'
      exact ⟨rfl, rfl, rfl⟩) runsS W base args ds gs before hval0 hW

theorem over : Rows.rowFullRow.holds Try.pinned (OpenSpec.ofChange Rows.rowFullSpec) :=
  OpenClaim.holds_of_wide 7 Try.f7 rfl rfl rfl rfl rfl rfl rfl ⟨rfl, rfl, rfl, rfl, rfl⟩ rfl rfl rfl rfl rfl (by kernel_rfl) Try.func7 (by kernel_rfl)
    (of_decide_eq_true (by kernel_rfl)) (by unfold Func.isWrapper; first | (rw [if_pos (by decide +kernel)]; kernel_rfl) | (rw [if_neg (by decide +kernel)]; exact ⟨rfl, rfl⟩))
    (fun os started H enc _ => lifted os started H enc)

/-- ████ THE STATEMENT ████ -/
theorem proved : Rows.RowFullSaid :=
  over
#print axioms proved
end Go.Proofs.Ytngghbloijkfoaa.rowFull
