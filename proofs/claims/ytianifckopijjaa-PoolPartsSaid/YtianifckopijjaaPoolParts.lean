/- The statement 'Rows.PoolPartsSaid': its function is run by the pure machine on data of its parameters' kinds; it gives true. No condition. -/
import Derived.Test.YtianifckopijjaaRows
import Derived.Test.YtianifckopijjaaPg
import Derived.WalkKit
import Derived.ProofKit
import Derived.OpenShut
import Derived.ShutString
namespace Go.Proofs.Ytianifckopijjaa.poolParts
open Go Go.Proofs Go.ChangeShapes Go.WideShapes Go.ChangeAt Go.RowKit Vm
set_option linter.unusedVariables false
set_option linter.unusedSimpArgs false

theorem own : ownKnob Try.prog.godebug = none := by kernel_rfl

def kinds : List Kd := [.slice (.int .i64), .slice (.int .i64), .int .i64]
theorem spY_ok : ∀ f s, spY f = some s → s.ok Try.prog f := spAdd_ok val22 (spAdd_ok worth21v (spAdd_ok known27' noSp_ok))
theorem fin12 {c : Int} (h0 : 0 ≤ c) (h1 : c ≤ 10000) {p h : List (List DV)} (hp : ∀ e ∈ p, okRow z1 e = true ∧ is64 (cel e)) (hh : ∀ e ∈ h, okRow z1 e = true ∧ is64 (cel e)) (hl : h.length = p.length) (h6 : p.length ≤ 6) (hok : allB (okP p h) = true)
    {A P H : DV} {a p' h' : List (List DV)} (sA : Sl 2 A) (sP : Sl 1 P) (sH : Sl 1 H) (eA : rowsA A = a) (eP : rowsA P = p') (eH : rowsA H = h') (ha : a = aN c p.length) (hp' : p' = p.reverse) (hh' : h' = h.reverse) :
    need (valS.D [A, .sla false 1 p, .sla false 1 h]) (need (valS.D [A, P, H]) (cond (decide ((h ++ [[DV.int .i64 1]]).length * 8 ≤ room ∧ (h ++ [[DV.int .i64 1]]).length ≤ room ∧ (h.all fun (e : List DV) => e.length == 1 && e.all DV.one) = true))
      (need (valS.D [A, .sla false 1 p, .sl .ro 1 (h ++ [[DV.int .i64 1]])]) (cond (cond (cond (cond (cond (vOk a p h) (vOk a p' h') false) ((cond (vOk a p h) (sumZ (wsA a p h)) 0) == sumZ (wl c p h)) false) ((cond (vOk a p' h') (sumZ (wsA a p' h')) 0) == sumZ (wl c p h)) false) (!vOk a p (h ++ [[DV.int .i64 1]])) false) (need (trueS.D []) (some (DV.bool true))) (some (DV.bool false)))) none)) = some (DV.bool true) := by
  subst ha hp' hh'
  have hlr : h.reverse.length = p.reverse.length := by rw [List.length_reverse, List.length_reverse, hl]
  have hokr : allB (okP p.reverse h.reverse) = true := by rw [ok_rev hl, hok]
  obtain ⟨f1, f2, f3, f4⟩ := wl_facts h0 h1 p h hl hok p.length (Nat.le_refl _)
  obtain ⟨g1, g2, g3, g4⟩ := wl_facts h0 h1 p.reverse h.reverse hlr hokr p.length (by rw [List.length_reverse]; exact Nat.le_refl _)
  rw [wl_rev c hl] at g3 g4
  have aLen : (aN c p.length).length = p.length := aN_len c p.length
  have hA3 : ∀ e ∈ aN c p.length, okRow z2 e = true ∧ is64 (cut e) := fun e he => by
    have := List.eq_of_mem_replicate he
    subst this
    refine ⟨rfl, ?_⟩
    show is64 c
    unfold is64
    omega
  have hPr : ∀ e ∈ p.reverse, okRow z1 e = true ∧ is64 (cel e) := fun e he => hp e (List.mem_reverse.1 he)
  have hHr : ∀ e ∈ h.reverse, okRow z1 e = true ∧ is64 (cel e) := fun e he => hh e (List.mem_reverse.1 he)
  have hh1 : ∀ e ∈ h ++ [[DV.int .i64 1]], okRow z1 e = true ∧ is64 (cel e) := fun e he => by
    rcases List.mem_append.1 he with he | he
    · exact hh e he
    · rw [List.mem_singleton.1 he]
      exact ⟨rfl, by simp [is64, cel, cellA, DV.toI]⟩
  have n1 : valS.D [A, .sla false 1 p, .sla false 1 h] := ⟨_, _, _, rfl, sA, Sl.sla _ _ _, Sl.sla _ _ _, by rw [eA]; exact ⟨hA3, hp, hh, by rw [aLen]; omega, by rw [rowsA_sla]; omega, by rw [rowsA_sla]; omega⟩⟩
  have n2 : valS.D [A, P, H] := ⟨_, _, _, rfl, sA, sP, sH, by rw [eA, eP, eH]; exact ⟨hA3, hPr, hHr, by rw [aLen]; omega, by rw [List.length_reverse]; omega, by rw [List.length_reverse]; omega⟩⟩
  have n3 : valS.D [A, .sla false 1 p, .sl .ro 1 (h ++ [[DV.int .i64 1]])] := ⟨_, _, _, rfl, sA, Sl.sla _ _ _, Sl.sl _ _ _, by rw [eA]; exact ⟨hA3, hp, hh1, by rw [aLen]; omega, by rw [rowsA_sla]; omega, by rw [rowsA_sl, List.length_append]; simp; omega⟩⟩
  have hl1 : (h ++ [[DV.int .i64 1]]).length ≤ 7 := by rw [List.length_append]; simp; omega
  have rm : decide ((h ++ [[DV.int .i64 1]]).length * 8 ≤ room ∧ (h ++ [[DV.int .i64 1]]).length ≤ room ∧ (h.all fun (e : List DV) => e.length == 1 && e.all DV.one) = true) = true := decide_eq_true ⟨by unfold room; omega, by unfold room; omega, allOne fun e he => (hh e he).1⟩
  have v1 : vOk (aN c p.length) p h = true := by
    rw [vOk_of (by rw [aLen]) (by rw [aLen, hl]), f1, f2, Bool.true_and]
    exact decide_eq_true (by omega)
  have v2 : vOk (aN c p.length) p.reverse h.reverse = true := by
    rw [vOk_of (by rw [aLen, List.length_reverse]) (by rw [aLen, List.length_reverse, hl]), g1, g2, Bool.true_and, wl_rev c hl]
    exact decide_eq_true (by omega)
  have v3 : vOk (aN c p.length) p (h ++ [[DV.int .i64 1]]) = false := vOk_no (by
    rw [decide_eq_false (show ¬ (h ++ [[DV.int .i64 1]]).length = (aN c p.length).length by rw [aLen, List.length_append]; simp; omega), Bool.and_false])
  refine (need_pos n1).trans ((need_pos n2).trans ?_)
  rw [rm, cond_true]
  refine (need_pos n3).trans ?_
  rw [v1, v2, v3, f1, g1, wl_rev c hl]
  simp only [cond_true, beq_self_eq_true, Bool.not_false]
  exact need_pos rfl
theorem runsS (xs : List DV) (h : KVs kinds xs) : Ent Try.prog 12 xs (.bool true) := by
  simp only [kinds, KVs, KV, KC, KCs] at h
  obtain ⟨x, _, rfl, ⟨p, hx, hps⟩, _, _, rfl, ⟨u, hu, hus⟩, _, _, rfl, ⟨c, hc, _⟩, rfl⟩ := h
  cases hx
  cases hu
  cases hc
  have hp : ∀ e ∈ p, okRow z1 e = true ∧ is64 (cel e) := fun e he => by
    obtain ⟨a0, rfl, w⟩ := hps e he
    exact ⟨rfl, wf_i64 w⟩
  have hh : ∀ e ∈ u, okRow z1 e = true ∧ is64 (cel e) := fun e he => by
    obtain ⟨a0, rfl, w⟩ := hus e he
    exact ⟨rfl, wf_i64 w⟩
  refine of_FK tab_ok spY_ok (L := 20) (n := 0 + 8) ((t12 20 0 p u c).trans ?_)
  refine cond_of (fun _ => rfl) (fun h => ?_)
  have hb : u.length = p.length ∧ p.length ≤ 6 ∧ 0 ≤ c ∧ c ≤ 10000 := by
    simp at h
    omega
  obtain ⟨hl, h6, h0, h1⟩ := hb
  have hL := loop120 h0 h1 hp hh hl h6 20 (0 + 4)
  unfold X120 at hL
  cases hok : allB (okP p u) with
  | false =>
    rw [hok] at hL
    exact need_pos (hL _ rfl)
  | true =>
    rw [hok] at hL
    rw [cond_true]
    by_cases e0 : p.length = 0
    · rw [decide_eq_true e0] at hL
      rw [decide_eq_true e0, cond_true]
      refine (need_pos (hL _ rfl)).trans ?_
      have ep : p = [] := List.eq_nil_of_length_eq_zero e0
      subst ep
      have eu : u = [] := List.eq_nil_of_length_eq_zero hl
      subst eu
      exact fin12 h0 h1 hp hh hl h6 hok (A := .nilsl) (P := .nilsl) (H := .nilsl) (Sl.nil _) (Sl.nil _) (Sl.nil _) rfl rfl rfl rfl rfl rfl
    · rw [decide_eq_false e0] at hL
      rw [decide_eq_false e0, cond_false]
      by_cases e1 : p.length = 1
      · rw [decide_eq_true e1] at hL
        rw [decide_eq_true e1, cond_true]
        refine (need_pos (hL _ rfl)).trans ?_
        exact fin12 h0 h1 hp hh hl h6 hok (A := .sl .ro 2 (aN c p.length)) (P := .sl .tight 1 p.reverse) (H := .sl .tight 1 u.reverse) (Sl.sl _ _ _) (Sl.sl _ _ _) (Sl.sl _ _ _) rfl rfl rfl rfl rfl rfl
      · rw [decide_eq_false e1] at hL
        rw [decide_eq_false e1, cond_false]
        by_cases e2 : p.length % 2 = 1
        · rw [decide_eq_true e2] at hL
          rw [decide_eq_true e2, cond_true]
          refine (need_pos (hL _ rfl)).trans ?_
          exact fin12 h0 h1 hp hh hl h6 hok (A := .sl .ro 2 (aN c p.length)) (P := .sl .ro 1 p.reverse) (H := .sl .ro 1 u.reverse) (Sl.sl _ _ _) (Sl.sl _ _ _) (Sl.sl _ _ _) rfl rfl rfl rfl rfl rfl
        · rw [decide_eq_false e2] at hL
          rw [decide_eq_false e2, cond_false]
          refine (need_pos (hL _ rfl)).trans ?_
          exact fin12 h0 h1 hp hh hl h6 hok (A := .sl .ro 2 (aN c p.length)) (P := .sl .ro 1 p.reverse) (H := .sl .ro 1 u.reverse) (Sl.sl _ _ _) (Sl.sl _ _ _) (Sl.sl _ _ _) rfl rfl rfl rfl rfl rfl

set_option maxRecDepth 100000 in
theorem lifted (os : Os) (started : os.Started) (H : Type) (enc : TypeId × Value → H) :
    ReturnsInHanded {} Try.checked os 12 .any (Rows.poolPartsSpec.pre6 enc Try.prog Try.f12 Rows.poolPartsRow.domain false) (Rows.poolPartsSpec.post enc Try.prog Try.f12 false true false false) := by
  refine returnsInHanded_of_change (C := Try.checked) own started (by kernel_rfl) Try.func12
    (ChangeSpec.witness6 (enc := enc) (C := Try.checked) false ⟨#[], #[.slice none 0 0, .slice none 0 0, .int .i64 0], []⟩ 8 (by kernel_rfl) (by kernel_rfl) (by kernel_rfl) (by kernel_rfl)) ?_
  intro W base args ds gs before hval0 hW hcnd _
  exact law_contract (H := H) (enc := enc) (s := Rows.poolPartsSpec) (fn := Try.f12) (by kernel_rfl) rfl (n := 8) (Ks := kinds) (by kernel_rfl) (by kernel_rfl) (rt := 4) (by kernel_rfl) (by kernel_rfl)
    (fun ds h => by
      have h' : ds.length = 3 := h
      obtain ⟨d0, d1, d2, rfl⟩ := len3 h'
      exact ⟨rfl, rfl, rfl⟩) runsS W base args ds gs before hval0 hW

theorem over : Rows.poolPartsRow.holds Try.pinned (OpenSpec.ofChange Rows.poolPartsSpec) :=
  OpenClaim.holds_of_wide 12 Try.f12 rfl rfl rfl rfl rfl rfl rfl ⟨rfl, rfl, rfl, rfl, rfl⟩ rfl rfl rfl rfl rfl (by kernel_rfl) Try.func12 (by kernel_rfl)
    (of_decide_eq_true (by kernel_rfl)) (by unfold Func.isWrapper; first | (rw [if_pos (by decide +kernel)]; kernel_rfl) | (rw [if_neg (by decide +kernel)]; exact ⟨rfl, rfl⟩))
    (fun os started H enc _ => lifted os started H enc)

/-- ████ THE STATEMENT ████ -/
theorem proved : Rows.PoolPartsSaid :=
  over
#print axioms proved
end Go.Proofs.Ytianifckopijjaa.poolParts
