/- What is known of the functions on rows of payments, by their runs: the document's own one less. No condition. -/
import Derived.Test.YtngghbloijkfoaaRg
namespace Go.Proofs.Ytngghbloijkfoaa
open Go Go.Proofs Go.RowKit Vm
set_option linter.unusedVariables false
set_option linter.unusedSimpArgs false
noncomputable def spM7 : FuncId → Option FSpec := spAdd 24 clsS (spAdd 25 drpS (spAdd 26 fndS (spAdd 27 samP spL7)))
def S80 (ds : List (Nat × AV)) : St := St.of ds []
theorem drop25 : drpS.ok Try.prog 25 := fun ds r hD hv => by
  obtain ⟨x, id, rfl, hx, hz, hl⟩ := hD
  cases hv
  refine EntX.gen1 hx ?_
  generalize rowsA x = es at *
  have h25 := (t25 20 0 es id).trans (need_pos ⟨_, _, rfl, Sl.sla _ _ _, hz, hl⟩)
  unfold dropL dropP dropE
  by_cases h1 : fI es id < 0
  · rw [decide_eq_true h1] at h25 ⊢
    exact spec_run (lsp := lsp0) tab_ok spG_ok 20 (0 + 8) h25
  · rw [decide_eq_false h1] at h25 ⊢
    obtain ⟨hi, _⟩ := fI_at es id (by omega)
    have hlen := (fI_lt es id).1
    have hcast : (((fI es id).toNat : Nat) : Int) = fI es id := by omega
    have hw : IntKind.i64.wrap (fI es id + 1) = fI es id + 1 := wrap_fits (by omega) (by omega)
    have hzi := hz _ (List.getElem_mem hi)
    have ht : (fI es id + 1).toNat = (fI es id).toNat + 1 := by omega
    have hz3 : ∀ e ∈ es.take (fI es id).toNat, okRow z7 e = true := fun e he => hz e (List.mem_of_mem_take he)
    have hz4 : ∀ e ∈ es.drop ((fI es id).toNat + 1), okRow z7 e = true := fun e he => hz e (List.mem_of_mem_drop he)
    have l3 : (es.take (fI es id).toNat).length ≤ 1000 := by rw [List.length_take]; omega
    have l4 : (es.drop ((fI es id).toNat + 1)).length ≤ 1000 := by rw [List.length_drop]; omega
    rw [hw, ht] at h25
    simp only [cond_false, decide_eq_true (show 0 ≤ fI es id by omega), decide_eq_true (show fI es id ≤ (es.length : Int) by omega), decide_eq_true (show 0 ≤ fI es id + 1 by omega), decide_eq_true (show fI es id + 1 ≤ (es.length : Int) by omega), cond_true, look_nat hi, hzi] at h25
    simp only [cond_false, List.getElem?_eq_getElem hi, Option.getD_some, delB]
    generalize es.take (fI es id).toNat = A at *
    generalize es.drop ((fI es id).toNat + 1) = B at *
    have q2 : decide (A.length * 56 ≤ room ∧ A.length ≤ room) = true := room7 (by omega)
    have q1 : decide (B.length * 56 ≤ room ∧ B.length ≤ room) = true := room7 (by omega)
    have q4 : decide ((A ++ B).length * 56 ≤ room ∧ (A ++ B).length ≤ room) = true := room7 (by rw [List.length_append]; omega)
    rw [all_one7 hz3, all_one7 hz4, q1, q2, q4] at h25
    simp only [cond_true] at h25
    by_cases hA : A.length = 0
    · have : A = [] := List.eq_nil_of_length_eq_zero hA
      subst this
      rw [decide_eq_true hA, cond_true] at h25
      by_cases hB : B.length = 0
      · have : B = [] := List.eq_nil_of_length_eq_zero hB
        subst this
        rw [decide_eq_true hB, cond_true] at h25
        exact resD (x := .sl .tight 7 []) (DLe.sl _ _ _) rfl (spec_run (lsp := lsp0) tab_ok spG_ok 20 (0 + 8) h25)
      · rw [decide_eq_false hB, cond_false] at h25
        exact resD (x := .sl (.own 38) 7 B) (DLe.sl _ _ _) rfl (spec_run (lsp := lsp0) tab_ok spG_ok 20 (0 + 8) h25)
    · rw [decide_eq_false hA, cond_false] at h25
      by_cases hB : B.length = 0
      · have : B = [] := List.eq_nil_of_length_eq_zero hB
        subst this
        rw [decide_eq_true hB, cond_true] at h25
        rw [List.append_nil]
        exact resD (x := .sl (.own 38) 7 A) (DLe.sl _ _ _) rfl (spec_run (lsp := lsp0) tab_ok spG_ok 20 (0 + 8) h25)
      · rw [decide_eq_false hB, cond_false] at h25
        exact resD (x := .sl (.own 38) 7 (A ++ B)) (DLe.sl _ _ _) rfl (spec_run (lsp := lsp0) tab_ok spG_ok 20 (0 + 8) h25)
theorem spM7_ok : ∀ f s, spM7 f = some s → s.ok Try.prog f := spAdd_ok cls24 (spAdd_ok drop25 (spAdd_ok fnd26 (spAdd_ok same27 spL7_ok)))
end Go.Proofs.Ytngghbloijkfoaa
