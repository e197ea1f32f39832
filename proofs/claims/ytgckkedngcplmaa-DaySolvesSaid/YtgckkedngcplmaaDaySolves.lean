/- The statement 'Rows.DaySolvesSaid': its function is run by the pure machine on data of its parameters' kinds; it gives true. No condition. -/
import Derived.Test.YtgckkedngcplmaaRows
import Derived.Test.YtgckkedngcplmaaSc
import Derived.WalkKit
import Derived.ProofKit
import Derived.OpenShut
import Derived.ShutString
namespace Go.Proofs.Ytgckkedngcplmaa.daySolves
open Go Go.Proofs Go.ChangeShapes Go.WideShapes Go.ChangeAt Go.RowKit Vm
set_option linter.unusedVariables false
set_option linter.unusedSimpArgs false

theorem own : ownKnob Try.prog.godebug = none := by kernel_rfl

def kinds : List Kd := [.int .i64, .int .i64]
theorem t1 (L n : Nat) (pe sh : Int) : FK tab sp1 lsp2 L (n+8) 10 [.int .i64 pe, .int .i64 sh] =
    (cond (bif bif bif decide (pe < (1 : Int)) then true else decide (pe > (50 : Int)) then true else decide (sh < (1 : Int)) then true else decide (sh > (100 : Int)))
     (some (.bool true))
     (need (LoopOk (LB tab sp1 lsp2 L (n + (8 : Nat)) h100 c10l0) (St.of [(0, (.d (.int .i64 pe))), (1, (.d (.int .i64 sh))), (5, (.ptr 5 5 0 0)), (6, (.d (.int .i64 ((0 : Int))))), (7, (.d (.int .i64 ((-3 : Int)))))] [(200022, (.some (.dat 42 2 [[(.int .i64 ((100 : Int))), (.int .i64 ((1000 : Int)))]]))), (5, (.some (.mix 24 5 [[(.d (.int .i64 ((2 : Int)))), (.aref (22 + 100000 * (1 + 1)) 2 0 (0 + 1)), (.d (.int .i64 ((0 : Int)))), (.d (.int .i64 sh)), (.d (.int .i64 pe))]])))]) ((.ex 0), (St.of [(0, (.d (.int .i64 pe))), (1, (.d (.int .i64 sh))), (6, (.d (.int .i64 ((↑((sh.toNat - (1 : Nat)) / pe.toNat) : Int)))))] [])))
      (cond (decide (pe = (0 : Int)))
       none
       (cond ((↑((sh.toNat - (1 : Nat)) / pe.toNat) : Int) == IntKind.i64.wrap ((IntKind.i64.wrap (sh - (1 : Int))).tdiv pe))
        (need (trueS.D [])
         (some (.bool true))
        )
        (some (.bool false))
       )
      )
     )
    ) := by kernel_rfl
theorem needT (a : Option DV) : need (trueS.D []) a = a := need_pos rfl
theorem runsS (xs : List DV) (h : KVs kinds xs) : ∃ call, CallOk Try.prog call ∧ call 10 xs = some (.bool true) := by
  simp only [kinds, KVs, KV, KC] at h
  obtain ⟨x, xs', rfl, ⟨pe, hx, w1⟩, y, ys', rfl, ⟨sh, hy, w2⟩, rfl⟩ := h
  cases hx
  cases hy
  refine of_FK tab_ok sp1_ok (L := 100) (n := 0 + 8) ((t1 100 0 pe sh).trans ?_)
  refine cond_of (fun _ => rfl) (fun hl => ?_)
  have hb : 1 ≤ pe ∧ pe ≤ 50 ∧ 1 ≤ sh ∧ sh ≤ 100 := by
    simp at hl
    omega
  clear hl
  obtain ⟨p, rfl⟩ : ∃ p : Nat, pe = (p : Int) := ⟨pe.toNat, by omega⟩
  obtain ⟨s, rfl⟩ : ∃ s : Nat, sh = (s : Int) := ⟨sh.toNat, by omega⟩
  have hL : LoopOk (LB tab sp1 lsp2 100 (0 + 8) h100 c10l0) (S100 p s 0 (-3)) (.ex 0, E100 p s (((s - 1) / p : Nat) : Int)) := loop100 100 4 p s (by omega) (by omega) (by omega)
  refine (need_pos hL).trans ?_
  have h0 : decide ((p : Int) = 0) = false := decide_eq_false (by omega)
  rw [h0, cond_false]
  have hw : IntKind.i64.wrap ((s : Int) - 1) = ((s - 1 : Nat) : Int) := by rw [wrap_fits] <;> omega
  have hd : (((s - 1 : Nat) : Int)).tdiv (p : Int) = (((s - 1) / p : Nat) : Int) := rfl
  have hle : (s - 1) / p ≤ s := Nat.le_trans (Nat.div_le_self _ _) (by omega)
  have hw2 : IntKind.i64.wrap ((((s - 1) / p : Nat) : Int)) = (((s - 1) / p : Nat) : Int) := by
    generalize (s - 1) / p = m at hle
    exact wrap_fits (by omega) (by omega)
  rw [hw, hd, hw2]
  simp only [needT]
  simp

set_option maxRecDepth 100000 in
theorem lifted (os : Os) (started : os.Started) (H : Type) (enc : TypeId × Value → H) :
    ReturnsInHanded {} Try.checked os 10 .any (Rows.daySolvesSpec.pre6 enc Try.prog Try.f10 Rows.daySolvesRow.domain false) (Rows.daySolvesSpec.post enc Try.prog Try.f10 false true false false) := by
  refine returnsInHanded_of_change (C := Try.checked) own started (by kernel_rfl) Try.func10
    (ChangeSpec.witness6 (enc := enc) (C := Try.checked) false ⟨#[], #[.int .i64 0, .int .i64 0], []⟩ 8 (by kernel_rfl) (by kernel_rfl) (by kernel_rfl) (by kernel_rfl)) ?_
  intro W base args ds gs before hval0 hW hcnd _
  exact law_contract (H := H) (enc := enc) (s := Rows.daySolvesSpec) (fn := Try.f10) (by kernel_rfl) rfl (n := 8) (Ks := kinds) (by kernel_rfl) (by kernel_rfl) (rt := 4) (by kernel_rfl) (by kernel_rfl)
    (fun ds h => by
      have h' : ds.length = 2 := h
      obtain ⟨d0, d1, rfl⟩ := len2 h'
      exact ⟨rfl, rfl, rfl⟩) runsS W base args ds gs before hval0 hW

theorem over : Rows.daySolvesRow.holds Try.pinned (OpenSpec.ofChange Rows.daySolvesSpec) :=
  OpenClaim.holds_of_wide 10 Try.f10 rfl rfl rfl rfl rfl rfl rfl ⟨rfl, rfl, rfl, rfl, rfl⟩ rfl rfl rfl rfl rfl (by kernel_rfl) Try.func10 (by kernel_rfl)
    (of_decide_eq_true (by kernel_rfl)) (by unfold Func.isWrapper; first | (rw [if_pos (by decide +kernel)]; kernel_rfl) | (rw [if_neg (by decide +kernel)]; exact ⟨rfl, rfl⟩))
    (fun os started H enc _ => lifted os started H enc)

/-- ████ THE STATEMENT ████ -/
theorem proved : Rows.DaySolvesSaid :=
  over
#print axioms proved
end Go.Proofs.Ytgckkedngcplmaa.daySolves
