/- The statement 'Rows.PaySameSaid': its function is run by the pure machine on data of its parameters' kinds; it gives true. No condition. -/
import Derived.Test.YtgckkedngcplmaaRows
import Derived.Test.YtgckkedngcplmaaSc
import Derived.WalkKit
import Derived.ProofKit
import Derived.OpenShut
import Derived.ShutString
namespace Go.Proofs.Ytgckkedngcplmaa.paySame
open Go Go.Proofs Go.ChangeShapes Go.WideShapes Go.ChangeAt Go.RowKit Vm
set_option linter.unusedVariables false
set_option linter.unusedSimpArgs false

theorem own : ownKnob Try.prog.godebug = none := by kernel_rfl

def kinds : List Kd := [.slice (.struct [.int .i64, .int .i64, .int .i64, .int .i64, .int .i64, .int .i64, .int .i64]), .slice (.struct [.int .i64, .int .i64, .int .i64, .int .i64, .int .i64, .int .i64, .int .i64])]
theorem t1 (L n : Nat) (es es2 : List (List DV)) : FK tab sp2 lsp2 L (n+8) 11 [.sl .ro 7 es, .sl .ro 7 es2] =
    (cond (bif decide ((↑es.length : Int) > (60 : Int)) then true else decide ((↑es2.length : Int) > (60 : Int)))
     (some (.bool true))
     (need (sameS.D [DV.sl SK.ro (7 : Nat) es, DV.sl SK.ro (7 : Nat) es2])
      (need (sameS.D [DV.sl SK.ro (7 : Nat) es, DV.sl SK.ro (7 : Nat) es2])
       (cond (sameR (rows (DV.sl SK.ro (7 : Nat) es)) (rows (DV.sl SK.ro (7 : Nat) es2)) == sameR (rows (DV.sl SK.ro (7 : Nat) es)) (rows (DV.sl SK.ro (7 : Nat) es2)))
        (need (sameS.D [DV.sl SK.ro (7 : Nat) es, DV.sl SK.ro (7 : Nat) es])
         (cond (sameR (rows (DV.sl SK.ro (7 : Nat) es)) (rows (DV.sl SK.ro (7 : Nat) es)))
          (need (trueS.D [])
           (some (.bool true))
          )
          (some (.bool false))
         )
        )
        (some (.bool false))
       )
      )
     )
    ) := by kernel_rfl
theorem t2 (L n : Nat) (es2 : List (List DV)) : FK tab sp2 lsp2 L (n+8) 11 [.nilsl, .sl .ro 7 es2] =
    (cond (bif decide ((0 : Int) > (60 : Int)) then true else decide ((↑es2.length : Int) > (60 : Int)))
     (some (.bool true))
     (need (sameS.D [DV.nilsl, DV.sl SK.ro (7 : Nat) es2])
      (need (sameS.D [DV.nilsl, DV.sl SK.ro (7 : Nat) es2])
       (cond (sameR (rows DV.nilsl) (rows (DV.sl SK.ro (7 : Nat) es2)) == sameR (rows DV.nilsl) (rows (DV.sl SK.ro (7 : Nat) es2)))
        (need (sameS.D [DV.nilsl, DV.nilsl])
         (need (trueS.D [])
          (some (.bool true))
         )
        )
        (some (.bool false))
       )
      )
     )
    ) := by kernel_rfl
theorem t3 (L n : Nat) (es : List (List DV)) : FK tab sp2 lsp2 L (n+8) 11 [.sl .ro 7 es, .nilsl] =
    (cond (bif decide ((↑es.length : Int) > (60 : Int)) then true else decide ((0 : Int) > (60 : Int)))
     (some (.bool true))
     (need (sameS.D [DV.sl SK.ro (7 : Nat) es, DV.nilsl])
      (need (sameS.D [DV.sl SK.ro (7 : Nat) es, DV.nilsl])
       (cond (sameR (rows (DV.sl SK.ro (7 : Nat) es)) (rows DV.nilsl) == sameR (rows (DV.sl SK.ro (7 : Nat) es)) (rows DV.nilsl))
        (need (sameS.D [DV.sl SK.ro (7 : Nat) es, DV.sl SK.ro (7 : Nat) es])
         (cond (sameR (rows (DV.sl SK.ro (7 : Nat) es)) (rows (DV.sl SK.ro (7 : Nat) es)))
          (need (trueS.D [])
           (some (.bool true))
          )
          (some (.bool false))
         )
        )
        (some (.bool false))
       )
      )
     )
    ) := by kernel_rfl
theorem t4 (L n : Nat) : FK tab sp2 lsp2 L (n+8) 11 [.nilsl, .nilsl] =
    (need (sameS.D [DV.nilsl, DV.nilsl])
     (need (sameS.D [DV.nilsl, DV.nilsl])
      (need (sameS.D [DV.nilsl, DV.nilsl])
       (need (trueS.D [])
        (some (.bool true))
       )
      )
     )
    ) := by kernel_rfl
theorem rowOk {es : List (List DV)} (h : ∀ x ∈ es, KC (.struct [.int .i64, .int .i64, .int .i64, .int .i64, .int .i64, .int .i64, .int .i64]) x) (hl : es.length ≤ 60) : RowsP (.sl .ro 7 es) := .inr ⟨.ro, es, rfl, fun e he => by
  have := h e he
  simp only [KC, KCs] at this
  obtain ⟨_, _, rfl, ⟨a0, rfl, _⟩, _, _, rfl, ⟨a1, rfl, _⟩, _, _, rfl, ⟨a2, rfl, _⟩, _, _, rfl, ⟨a3, rfl, _⟩, _, _, rfl, ⟨a4, rfl, _⟩, _, _, rfl, ⟨a5, rfl, _⟩, _, _, rfl, ⟨a6, rfl, _⟩, rfl⟩ := this
  rfl, by omega⟩
theorem rowN : RowsP .nilsl := .inl rfl
theorem needT (a : Option DV) : need (trueS.D []) a = a := need_pos rfl
theorem needS {x y : DV} (hx : RowsP x) (hy : RowsP y) (a : Option DV) : need (sameS.D [x, y]) a = a := need_pos ⟨x, y, rfl, hx, hy⟩
theorem runsS (xs : List DV) (h : KVs kinds xs) : ∃ call, CallOk Try.prog call ∧ call 11 xs = some (.bool true) := by
  simp only [kinds, KVs, KV] at h
  obtain ⟨x, xs', rfl, hx, y, ys', rfl, hy, rfl⟩ := h
  simp only [KC, List.cons.injEq, and_true] at hx hy
  rcases hx with rfl | ⟨es, rfl, hes⟩ <;> rcases hy with rfl | ⟨es2, rfl, hes2⟩
  · refine of_FK tab_ok sp2_ok (L := 100) (n := 0 + 8) ((t4 100 0).trans ?_)
    simp only [needS rowN rowN, needT, beq_self_eq_true, sameR_self, cond_true]
  · refine of_FK tab_ok sp2_ok (L := 100) (n := 0 + 8) ((t2 100 0 es2).trans ?_)
    refine cond_of (fun _ => rfl) (fun hl => ?_)
    have r2 := rowOk hes2 (by simp at hl; omega)
    simp only [needS rowN r2, needS rowN rowN, needT, beq_self_eq_true, sameR_self, cond_true]
  · refine of_FK tab_ok sp2_ok (L := 100) (n := 0 + 8) ((t3 100 0 es).trans ?_)
    refine cond_of (fun _ => rfl) (fun hl => ?_)
    have r1 := rowOk hes (by simp at hl; omega)
    simp only [needS r1 rowN, needS r1 r1, needT, beq_self_eq_true, sameR_self, cond_true]
  · refine of_FK tab_ok sp2_ok (L := 100) (n := 0 + 8) ((t1 100 0 es es2).trans ?_)
    refine cond_of (fun _ => rfl) (fun hl => ?_)
    have r1 := rowOk hes (by simp at hl; omega)
    have r2 := rowOk hes2 (by simp at hl; omega)
    simp only [needS r1 r2, needS r1 r1, needT, beq_self_eq_true, sameR_self, cond_true]

set_option maxRecDepth 100000 in
theorem lifted (os : Os) (started : os.Started) (H : Type) (enc : TypeId × Value → H) :
    ReturnsInHanded {} Try.checked os 11 .any (Rows.paySameSpec.pre6 enc Try.prog Try.f11 Rows.paySameRow.domain false) (Rows.paySameSpec.post enc Try.prog Try.f11 false true false false) := by
  refine returnsInHanded_of_change (C := Try.checked) own started (by kernel_rfl) Try.func11
    (ChangeSpec.witness6 (enc := enc) (C := Try.checked) false ⟨#[], #[.slice none 0 0, .slice none 0 0], []⟩ 8 (by kernel_rfl) (by kernel_rfl) (by kernel_rfl) (by kernel_rfl)) ?_
  intro W base args ds gs before hval0 hW hcnd _
  exact law_contract (H := H) (enc := enc) (s := Rows.paySameSpec) (fn := Try.f11) (by kernel_rfl) rfl (n := 8) (Ks := kinds) (by kernel_rfl) (by kernel_rfl) (rt := 4) (by kernel_rfl) (by kernel_rfl)
    (fun ds h => by
      have h' : ds.length = 2 := h
      obtain ⟨d0, d1, rfl⟩ := len2 h'
      exact ⟨rfl, rfl, rfl⟩) runsS W base args ds gs before hval0 hW

theorem over : Rows.paySameRow.holds Try.pinned (OpenSpec.ofChange Rows.paySameSpec) :=
  OpenClaim.holds_of_wide 11 Try.f11 rfl rfl rfl rfl rfl rfl rfl ⟨rfl, rfl, rfl, rfl, rfl⟩ rfl rfl rfl rfl rfl (by kernel_rfl) Try.func11 (by kernel_rfl)
    (of_decide_eq_true (by kernel_rfl)) (by unfold Func.isWrapper; first | (rw [if_pos (by decide +kernel)]; kernel_rfl) | (rw [if_neg (by decide +kernel)]; exact ⟨rfl, rfl⟩))
    (fun os started H enc _ => lifted os started H enc)

/-- ████ THE STATEMENT ████ -/
theorem proved : Rows.PaySameSaid :=
  over
#print axioms proved
end Go.Proofs.Ytgckkedngcplmaa.paySame
