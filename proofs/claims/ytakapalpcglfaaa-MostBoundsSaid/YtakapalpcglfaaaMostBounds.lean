/- The statement 'Rows.MostBoundsSaid': its function is run by the pure machine on data of its parameters' kinds; it gives true. No condition. -/
import Derived.Test.YtakapalpcglfaaaRows
import Derived.Test.YtakapalpcglfaaaMg
import Derived.WalkKit
import Derived.ProofKit
import Derived.OpenShut
import Derived.ShutString
namespace Go.Proofs.Ytakapalpcglfaaa.mostBounds
open Go Go.Proofs Go.ChangeShapes Go.WideShapes Go.ChangeAt Go.RowKit Vm
set_option linter.unusedVariables false
set_option linter.unusedSimpArgs false

theorem own : ownKnob Try.prog.godebug = none := by kernel_rfl

def kinds : List Kd := [.int .i64, .int .i64, .int .i64, .int .i64, .int .i64, .int .i64]
theorem len6 {α : Type} {l : List α} (h : l.length = 6) : ∃ a b c d e f, l = [a, b, c, d, e, f] := by
  match l, h with
  | [a, b, c, d, e, f], _ => exact ⟨a, b, c, d, e, f, rfl⟩
theorem pick {x y : Int} {A B : Option DV} (h : x = y) : cond (x == y) A B = A := by rw [beq_iff_eq.2 h]; rfl
theorem runsS (xs : List DV) (h : KVs kinds xs) : Ent Try.prog 9 xs (.bool true) := by
  simp only [kinds, KVs, KV, KC, KCs] at h
  obtain ⟨_, _, rfl, ⟨bal, h1, _⟩, _, _, rfl, ⟨res, h2, _⟩, _, _, rfl, ⟨bil, h3, _⟩, _, _, rfl, ⟨mul, h4, _⟩, _, _, rfl, ⟨pos, h5, _⟩, _, _, rfl, ⟨c, h6, _⟩, rfl⟩ := h
  cases h1
  cases h2
  cases h3
  cases h4
  cases h5
  cases h6
  refine of_FK tab_ok spBo_ok (L := 40) (n := 0 + 12) ((t9 0 bal res bil mul pos c).trans ?_)
  refine cond_of (fun _ => rfl) (fun h => ?_)
  have hr : (0 ≤ bal ∧ bal ≤ 1000) ∧ (0 ≤ res ∧ res ≤ 1000) ∧ (-1 ≤ bil ∧ bil ≤ 1000) ∧ (-1 ≤ mul ∧ mul ≤ 1000) ∧ (-1000 ≤ pos ∧ pos ≤ 1000) ∧ (1 ≤ c ∧ c ≤ 3) := by
    simp at h
    omega
  clear h
  obtain ⟨r1, r2, r3, r4, r5, r6⟩ := hr
  have hneg : IntKind.i64.wrap ((0 : Int) - pos) = 0 - pos := wrap_fits (by omega) (by omega)
  have hB := bk_of r1 r2 r3 r4 r5 (neg := IntKind.i64.wrap ((0 : Int) - pos)) hneg
  have hv := of_val r1 r2 r3 r4 r5 (neg := IntKind.i64.wrap ((0 : Int) - pos)) hneg r6
  have nO : ofG.D [.agg [.sl .ro 3 (Ab bal res), .sl .ro 1 (Bb bil), .sl .ro 1 (Mb mul), .sl .ro 1 (Qb pos (IntKind.i64.wrap ((0 : Int) - pos)))], .int .i64 0, .int .i64 1, .int .i64 c] := ⟨_, _, _, _, _, _, _, rfl, Sl.sl _ _ _, Sl.sl _ _ _, Sl.sl _ _ _, Sl.sl _ _ _, hB⟩
  have nR : roomS.D [.agg [.int .i64 bal, .int .i64 0, .int .i64 res], .int .i64 c] := ⟨_, _, _, _, rfl, by unfold isA; omega⟩
  have w1 : IntKind.i64.wrap (bil - pos) = bil - pos := wrap_fits (by omega) (by omega)
  have w2 : IntKind.i64.wrap (mul - pos) = mul - pos := wrap_fits (by omega) (by omega)
  have hro : roomI bal 0 res c ≤ 1000 := by
    unfold roomI
    cases (c == 3) <;> simp only [cond_true, cond_false] <;> omega
  refine (need_pos nR).trans ?_
  by_cases g1 : bil ≥ 0
  · by_cases g2 : mul ≥ 0
    · rw [decide_eq_true g1, decide_eq_true g2] at hv
      rw [decide_eq_true g1, decide_eq_true g2, cond_true, cond_true]
      refine (need_pos nO).trans ((pick (hv.trans ?_)).trans (need_pos rfl))
      simp only [cond_true, w1, w2]
      generalize roomI bal 0 res c = rm at *
      repeat' split
      all_goals omega
    · rw [decide_eq_true g1, decide_eq_false g2] at hv
      rw [decide_eq_true g1, decide_eq_false g2, cond_true, cond_false]
      refine (need_pos nO).trans ((pick (hv.trans ?_)).trans (need_pos rfl))
      simp only [cond_true, cond_false, w1, w2]
      generalize roomI bal 0 res c = rm at *
      repeat' split
      all_goals omega
  · by_cases g2 : mul ≥ 0
    · rw [decide_eq_false g1, decide_eq_true g2] at hv
      rw [decide_eq_false g1, decide_eq_true g2, cond_true, cond_false]
      refine (need_pos nO).trans ((pick (hv.trans ?_)).trans (need_pos rfl))
      simp only [cond_true, cond_false, w1, w2]
      generalize roomI bal 0 res c = rm at *
      repeat' split
      all_goals omega
    · rw [decide_eq_false g1, decide_eq_false g2] at hv
      rw [decide_eq_false g1, decide_eq_false g2, cond_false, cond_false]
      refine (need_pos nO).trans ((pick (hv.trans ?_)).trans (need_pos rfl))
      simp only [cond_false, w1, w2]
      generalize roomI bal 0 res c = rm at *
      repeat' split
      all_goals omega

set_option maxRecDepth 100000 in
theorem lifted (os : Os) (started : os.Started) (H : Type) (enc : TypeId × Value → H) :
    ReturnsInHanded {} Try.checked os 9 .any (Rows.mostBoundsSpec.pre6 enc Try.prog Try.f9 Rows.mostBoundsRow.domain false) (Rows.mostBoundsSpec.post enc Try.prog Try.f9 false true false false) := by
  refine returnsInHanded_of_change (C := Try.checked) own started (by kernel_rfl) Try.func9
    (ChangeSpec.witness6 (enc := enc) (C := Try.checked) false ⟨#[], #[.int .i64 0, .int .i64 0, .int .i64 0, .int .i64 0, .int .i64 0, .int .i64 0], []⟩ 8 (by kernel_rfl) (by kernel_rfl) (by kernel_rfl) (by kernel_rfl)) ?_
  intro W base args ds gs before hval0 hW hcnd _
  exact law_contract (H := H) (enc := enc) (s := Rows.mostBoundsSpec) (fn := Try.f9) (by kernel_rfl) rfl (n := 8) (Ks := kinds) (by kernel_rfl) (by kernel_rfl) (rt := 4) (by kernel_rfl) (by kernel_rfl)
    (fun ds h => by
      have h' : ds.length = 6 := h
      obtain ⟨d0, d1, d2, d3, d4, d5, rfl⟩ := len6 h'
      exact ⟨rfl, rfl, rfl⟩) runsS W base args ds gs before hval0 hW

theorem over : Rows.mostBoundsRow.holds Try.pinned (OpenSpec.ofChange Rows.mostBoundsSpec) :=
  OpenClaim.holds_of_wide 9 Try.f9 rfl rfl rfl rfl rfl rfl rfl ⟨rfl, rfl, rfl, rfl, rfl⟩ rfl rfl rfl rfl rfl (by kernel_rfl) Try.func9 (by kernel_rfl)
    (of_decide_eq_true (by kernel_rfl)) (by unfold Func.isWrapper; first | (rw [if_pos (by decide +kernel)]; kernel_rfl) | (rw [if_neg (by decide +kernel)]; exact ⟨rfl, rfl⟩))
    (fun os started H enc _ => lifted os started H enc)

/-- ████ THE STATEMENT ████ -/
theorem proved : Rows.MostBoundsSaid :=
  over
#print axioms proved
end Go.Proofs.Ytakapalpcglfaaa.mostBounds
