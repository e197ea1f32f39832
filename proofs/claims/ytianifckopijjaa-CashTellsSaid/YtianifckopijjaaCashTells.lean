/- The statement 'Rows.CashTellsSaid': its function is run by the pure machine on data of its parameters' kinds; it gives true. No condition. -/
import Derived.Test.YtianifckopijjaaRows
import Derived.Test.YtianifckopijjaaSh
import Derived.WalkKit
import Derived.ProofKit
import Derived.OpenShut
import Derived.ShutString
namespace Go.Proofs.Ytianifckopijjaa.cashTells
open Go Go.Proofs Go.ChangeShapes Go.WideShapes Go.ChangeAt Go.RowKit Vm
set_option linter.unusedVariables false
set_option linter.unusedSimpArgs false

theorem own : ownKnob Try.prog.godebug = none := by kernel_rfl

def kinds : List Kd := [.int .i64, .int .i64, .int .i64]
theorem l8 (L n : Nat) (a b c : Int) : FK tab spT lsp0 L (n+8) 8 [.int .i64 a, .int .i64 b, .int .i64 c] =
    (need (FSpec.D (addF) [(.int .i64 a), (.int .i64 b)])
     (need (FSpec.D (addF) [(.int .i64 a), (.int .i64 b)])
      (need (FSpec.D (lessS) [(.int .i64 a), (.int .i64 c)])
       (need (FSpec.D (lessS) [(.int .i64 a), (.int .i64 c)])
        (need (FSpec.D (worthV) [(.int .i64 a), (.int .i64 b), (.int .i64 c)])
         (need (FSpec.D (worthV) [(.int .i64 a), (.int .i64 b), (.int .i64 c)])
          (cond (bif bif bif bif bif (bif fitsB (a + b) then a + b else (0 : Int)) == bif fitsB (a + b) then a + b else (0 : Int) then fitsB (a + b) == fitsB (a + b) else false then (bif badL a c then (0 : Int) else lessI a c) == bif badL a c then (0 : Int) else lessI a c else false then (!badL a c) == !badL a c else false then (bif wOk a b c then wI a b c else (0 : Int)) == bif wOk a b c then wI a b c else (0 : Int) else false then wOk a b c == wOk a b c else false)
           (need (FSpec.D (trueS) [])
            (some (.bool true))
           )
           (some (.bool false))
          )
         )
        )
       )
      )
     )
    ) := by kernel_rfl
theorem runsS (xs : List DV) (h : KVs kinds xs) : Ent Try.prog 8 xs (.bool true) := by
  simp only [kinds, KVs, KV, KC] at h
  obtain ⟨x, xs', rfl, ⟨a, hx, w1⟩, y, ys', rfl, ⟨b, hy, w2⟩, z, zs', rfl, ⟨c, hz, w3⟩, rfl⟩ := h
  cases hx
  cases hy
  cases hz
  refine of_FK tab_ok spT_ok (L := 100) (n := 0 + 8) ((l8 100 0 a b c).trans ?_)
  have ha : is64 a := wf_i64 w1
  have hb : is64 b := wf_i64 w2
  have hc : is64 c := wf_i64 w3
  have nA : ∀ x, need (addF.D [DV.int IntKind.i64 a, DV.int IntKind.i64 b]) x = x := fun x => need_pos ⟨a, b, rfl, ha, hb⟩
  have nL : ∀ x, need (lessS.D [DV.int IntKind.i64 a, DV.int IntKind.i64 c]) x = x := fun x => need_pos ⟨a, c, rfl, ha, hc⟩
  have nW : ∀ x, need (worthV.D [DV.int IntKind.i64 a, DV.int IntKind.i64 b, DV.int IntKind.i64 c]) x = x := fun x => need_pos ⟨a, b, c, rfl, ha, hb, hc⟩
  simp only [nA, nL, nW, beq_self_eq_true, cond_true]
  exact need_pos rfl

set_option maxRecDepth 100000 in
theorem lifted (os : Os) (started : os.Started) (H : Type) (enc : TypeId × Value → H) :
    ReturnsInHanded {} Try.checked os 8 .any (Rows.cashTellsSpec.pre6 enc Try.prog Try.f8 Rows.cashTellsRow.domain false) (Rows.cashTellsSpec.post enc Try.prog Try.f8 false true false false) := by
  refine returnsInHanded_of_change (C := Try.checked) own started (by kernel_rfl) Try.func8
    (ChangeSpec.witness6 (enc := enc) (C := Try.checked) false ⟨#[], #[.int .i64 0, .int .i64 0, .int .i64 0], []⟩ 8 (by kernel_rfl) (by kernel_rfl) (by kernel_rfl) (by kernel_rfl)) ?_
  intro W base args ds gs before hval0 hW hcnd _
  exact law_contract (H := H) (enc := enc) (s := Rows.cashTellsSpec) (fn := Try.f8) (by kernel_rfl) rfl (n := 8) (Ks := kinds) (by kernel_rfl) (by kernel_rfl) (rt := 4) (by kernel_rfl) (by kernel_rfl)
    (fun ds h => by
      have h' : ds.length = 3 := h
      obtain ⟨d0, d1, d2, rfl⟩ := len3 h'
      exact ⟨rfl, rfl, rfl⟩) runsS W base args ds gs before hval0 hW

theorem over : Rows.cashTellsRow.holds Try.pinned (OpenSpec.ofChange Rows.cashTellsSpec) :=
  OpenClaim.holds_of_wide 8 Try.f8 rfl rfl rfl rfl rfl rfl rfl ⟨rfl, rfl, rfl, rfl, rfl⟩ rfl rfl rfl rfl rfl (by kernel_rfl) Try.func8 (by kernel_rfl)
    (of_decide_eq_true (by kernel_rfl)) (by unfold Func.isWrapper; first | (rw [if_pos (by decide +kernel)]; kernel_rfl) | (rw [if_neg (by decide +kernel)]; exact ⟨rfl, rfl⟩))
    (fun os started H enc _ => lifted os started H enc)

/-- ████ THE STATEMENT ████ -/
theorem proved : Rows.CashTellsSaid :=
  over
#print axioms proved
end Go.Proofs.Ytianifckopijjaa.cashTells
