/- The statement 'Rows.FitsOrderSaid': its function is run by the pure machine on data of its parameters' kinds; it gives true. No condition. -/
import Derived.Test.YthjcfiekdejdgaaRows
import Derived.Test.YthjcfiekdejdgaaHh
import Derived.WalkKit
import Derived.ProofKit
import Derived.OpenShut
import Derived.ShutString
namespace Go.Proofs.Ythjcfiekdejdgaa.fitsOrder
open Go Go.Proofs Go.ChangeShapes Go.WideShapes Go.ChangeAt Go.RowKit Vm
set_option linter.unusedVariables false
set_option linter.unusedSimpArgs false

theorem own : ownKnob Try.prog.godebug = none := by kernel_rfl

def kinds : List Kd := [.slice (.int .i64), .int .i64, .slice (.struct [.int .i64, .int .i64, .int .i64, .int .i64, .int .i64, .int .i64, .int .i64]), .int .i64]
theorem outX_of (a b c : Bool) : inoS.D [outX a b c, outX a b c] := by
  cases a <;> cases b <;> cases c <;> refine ⟨_, _, rfl, ?_, ?_, rfl, ?_, ?_⟩ <;> first
    | exact Sl.nil 1
    | exact Sl.sl _ _ _
    | decide
    | (intro e he
       simp [outX, outE, rowsA] at he
       done)
    | (intro e he
       simp [outX, outE, rowsA] at he
       subst he
       rfl)
    | (intro e he
       simp [outX, outE, rowsA] at he
       rcases he with rfl | rfl <;> rfl)
    | (intro e he
       simp [outX, outE, rowsA] at he
       rcases he with rfl | rfl | rfl <;> rfl)
theorem runsS (xs : List DV) (h : KVs kinds xs) : Ent Try.prog 5 xs (.bool true) := by
  simp only [kinds, KVs, KV, KC, KCs] at h
  obtain ⟨x, _, rfl, ⟨hv, hx, hes⟩, _, _, rfl, ⟨w, hw, _⟩, _, _, rfl, ⟨l, hl', hls⟩, _, _, rfl, ⟨t, ht, _⟩, rfl⟩ := h
  cases hx
  cases hw
  cases hl'
  cases ht
  have hz1 : ∀ e ∈ hv, okRow z1 e = true := fun e he => by
    obtain ⟨n, rfl, _⟩ := hes e he
    rfl
  have hz : ∀ e ∈ l, okRow z7 e = true := fun e he => by
    obtain ⟨_, _, rfl, ⟨a0, rfl, _⟩, _, _, rfl, ⟨a1, rfl, _⟩, _, _, rfl, ⟨a2, rfl, _⟩, _, _, rfl, ⟨a3, rfl, _⟩, _, _, rfl, ⟨a4, rfl, _⟩, _, _, rfl, ⟨a5, rfl, _⟩, _, _, rfl, ⟨a6, rfl, _⟩, rfl⟩ := hls e he
    rfl
  have hr40 := (rowL_RN l).len
  have hp := (rowL_RN l).po
  have hzr := (rowL_RN l).z
  generalize ha : shP (bA hv w) (bB w) (bM w) (bQ w) (rowL l) 0 = a
  generalize hb : shP (bA hv w) (bB w) (bM w) (bQ w) (rowL l) 1 = b
  generalize hc : shP (bA hv w) (bB w) (bM w) (bQ w) (rowL l) 2 = c
  refine of_FK tab_ok (spO_ok a b c) (L := 20) (n := 0 + 8) ((t5 a b c 0 hv l w t).trans ?_)
  refine cond_of (fun _ => rfl) (fun h => ?_)
  have hl : l.length ≤ 30 := by
    simp at h
    omega
  generalize hR : rowL l = r at *
  have hL := loop50 a b c (0 + 4) t (.sla false 3 (bA hv w)) (.sla false 1 (bB w)) (.sla false 1 (bM w)) (.sla false 1 (bQ w)) (r := r) (by omega) hzr
  have hrl : (rot r t).length ≤ 1000 := by
    have := outN_len r.length (fun _ => true) (rotP r (and64 t 63).toNat)
    show (outN r.length (fun _ => true) (rotP r (and64 t 63).toNat)).length ≤ 1000
    omega
  have hs := rot_sum hzr t
  have hD : ∀ x, Sl 7 x → rowsA x = r → (shoC a b c).D [bkw hv w, x] := fun x hx he => ⟨_, _, _, _, _, rfl, bk_some hv w, hx, by rw [he]; omega, by rw [he]; exact hp, rfl, by rw [he]; exact ha, by rw [he]; exact hb, by rw [he]; exact hc⟩
  have hE : ∀ x, Sl 7 x → rowsA x = rot r t → (shoC a b c).D [bkw hv w, x] := fun x hx he => ⟨_, _, _, _, _, rfl, bk_some hv w, hx, by rw [he]; exact hrl, by rw [he]; exact fun e h => hp e (rot_mem hzr t e h), rfl, by rw [he, shP_sums hs]; exact ha, by rw [he, shP_sums hs]; exact hb, by rw [he, shP_sums hs]; exact hc⟩
  have hK : ∀ x, Sl 7 x → rowsA x = rot r t → aftK a b c hv w x = some (.bool true) := fun x hx he => (need_pos (hE x hx he)).trans ((need_pos (outX_of a b c)).trans (need_pos rfl))
  have hO : aftO a b c hv w r (rot r t) = some (.bool true) := by
    refine (need_pos (hD _ (Sl.sla _ _ _) rfl)).trans ?_
    rw [decide_eq_true (by omega), cond_true, List.take_length]
    exact hK _ (Sl.sl _ _ _) rfl
  refine (need_pos ⟨_, _, rfl, Sl.sla _ _ _, hz1⟩).trans ((need_pos ⟨_, rfl, Sl.sla _ _ _, hz, by show l.length ≤ 1000; omega⟩).trans ?_)
  refine collR_run (E := E50 (bw hv w) r) (f := f50 a b c 0) hL (fun h => ?_) (fun h => hO) (fun h => hO)
  exact (need_pos (hD _ (Sl.sla _ _ _) rfl)).trans (hK _ (Sl.nil _) (by rw [h]; rfl))

set_option maxRecDepth 100000 in
theorem lifted (os : Os) (started : os.Started) (H : Type) (enc : TypeId × Value → H) :
    ReturnsInHanded {} Try.checked os 5 .any (Rows.fitsOrderSpec.pre6 enc Try.prog Try.f5 Rows.fitsOrderRow.domain false) (Rows.fitsOrderSpec.post enc Try.prog Try.f5 false true false false) := by
  refine returnsInHanded_of_change (C := Try.checked) own started (by kernel_rfl) Try.func5
    (ChangeSpec.witness6 (enc := enc) (C := Try.checked) false ⟨#[], #[.slice none 0 0, .int .i64 0, .slice none 0 0, .int .i64 0], []⟩ 8 (by kernel_rfl) (by kernel_rfl) (by kernel_rfl) (by kernel_rfl)) ?_
  intro W base args ds gs before hval0 hW hcnd _
  exact law_contract (H := H) (enc := enc) (s := Rows.fitsOrderSpec) (fn := Try.f5) (by kernel_rfl) rfl (n := 8) (Ks := kinds) (by kernel_rfl) (by kernel_rfl) (rt := 4) (by kernel_rfl) (by kernel_rfl)
    (fun ds h => by
      have h' : ds.length = 4 := h
      obtain ⟨d0, d1, d2, d3, rfl⟩ := len4 h'
      exact ⟨rfl, rfl, rfl⟩) runsS W base args ds gs before hval0 hW

theorem over : Rows.fitsOrderRow.holds Try.pinned (OpenSpec.ofChange Rows.fitsOrderSpec) :=
  OpenClaim.holds_of_wide 5 Try.f5 rfl rfl rfl rfl rfl rfl rfl ⟨rfl, rfl, rfl, rfl, rfl⟩ rfl rfl rfl rfl rfl (by kernel_rfl) Try.func5 (by kernel_rfl)
    (of_decide_eq_true (by kernel_rfl)) (by unfold Func.isWrapper; first | (rw [if_pos (by decide +kernel)]; kernel_rfl) | (rw [if_neg (by decide +kernel)]; exact ⟨rfl, rfl⟩))
    (fun os started H enc _ => lifted os started H enc)

/-- ████ THE STATEMENT ████ -/
theorem proved : Rows.FitsOrderSaid :=
  over
#print axioms proved
end Go.Proofs.Ythjcfiekdejdgaa.fitsOrder
