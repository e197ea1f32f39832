/- The statement 'Rows.FitsLessSaid': its function is run by the pure machine on data of its parameters' kinds; it gives true. No condition. -/
import Derived.Test.YthjcfiekdejdgaaRows
import Derived.Test.YthjcfiekdejdgaaHj
import Derived.WalkKit
import Derived.ProofKit
import Derived.OpenShut
import Derived.ShutString
namespace Go.Proofs.Ythjcfiekdejdgaa.fitsLess
open Go Go.Proofs Go.ChangeShapes Go.WideShapes Go.ChangeAt Go.RowKit Vm
set_option linter.unusedVariables false
set_option linter.unusedSimpArgs false

theorem own : ownKnob Try.prog.godebug = none := by kernel_rfl

def kinds : List Kd := [.slice (.int .i64), .int .i64, .slice (.struct [.int .i64, .int .i64, .int .i64, .int .i64, .int .i64, .int .i64, .int .i64]), .int .i64, .slice (.int .i64)]
theorem runsS (xs : List DV) (h : KVs kinds xs) : Ent Try.prog 6 xs (.bool true) := by
  simp only [kinds, KVs, KV, KC, KCs] at h
  obtain ⟨x, _, rfl, ⟨hv, hx, hes⟩, _, _, rfl, ⟨w, hw, _⟩, _, _, rfl, ⟨l, hl', hls⟩, _, _, rfl, ⟨t, ht, _⟩, _, _, rfl, ⟨d, hd, hds⟩, rfl⟩ := h
  cases hx
  cases hw
  cases hl'
  cases ht
  cases hd
  have hz1 : ∀ e ∈ hv, okRow z1 e = true := fun e he => by
    obtain ⟨n, rfl, _⟩ := hes e he
    rfl
  have hzd : ∀ e ∈ d, okRow z1 e = true := fun e he => by
    obtain ⟨n, rfl, _⟩ := hds e he
    rfl
  have hz : ∀ e ∈ l, okRow z7 e = true := fun e he => by
    obtain ⟨_, _, rfl, ⟨a0, rfl, _⟩, _, _, rfl, ⟨a1, rfl, _⟩, _, _, rfl, ⟨a2, rfl, _⟩, _, _, rfl, ⟨a3, rfl, _⟩, _, _, rfl, ⟨a4, rfl, _⟩, _, _, rfl, ⟨a5, rfl, _⟩, _, _, rfl, ⟨a6, rfl, _⟩, rfl⟩ := hls e he
    rfl
  refine of_FK tab_ok spL_ok (L := 20) (n := 0 + 8) ((t6 0 hv l d w t).trans ?_)
  refine cond_of (fun _ => rfl) (fun h => ?_)
  have hb : (l.length ≤ 30 ∧ d.length ≤ 30) ∧ 0 ≤ t ∧ t ≤ 2 := by
    simp at h
    omega
  obtain ⟨⟨hl, hdl⟩, ht0, ht2⟩ := hb
  obtain ⟨who, rfl⟩ : ∃ who : Nat, t = (who : Nat) := ⟨t.toNat, by omega⟩
  have hRN := rowL_RN l
  have hr40 := hRN.len
  have hp := hRN.po
  have hzr := hRN.z
  have hP := hRN.p
  generalize rowL l = r at *
  have hM := DM.all (who := who) hP d d.length
  have hL := loop60 (0 + 4) (who := who) (.sla false 3 (bA hv w)) (.sla false 1 (bB w)) (.sla false 1 (bM w)) (.sla false 1 (bQ w)) hdl hzd hzr hP
  refine (need_pos ⟨_, _, rfl, Sl.sla _ _ _, hz1⟩).trans ((need_pos ⟨_, rfl, Sl.sla _ _ _, hz, by show l.length ≤ 1000; omega⟩).trans ((need_pos hL).trans ?_))
  generalize dropN ((who : Nat) : Int) d r d.length = m at *
  have hlm := hM.len
  refine (need_pos ⟨_, _, _, _, _, rfl, bk_some hv w, Sl.sla _ _ _, by show r.length ≤ 1000; omega, hp⟩).trans ?_
  refine (need_pos ⟨_, _, _, _, _, rfl, bk_some hv w, Sl.sla _ _ _, by show m.length ≤ 1000; omega, fun e he => hp e (hM.sub e he)⟩).trans ?_
  have l1 := outL_len 3 (shP (bA hv w) (bB w) (bM w) (bQ w) r)
  have l2 := outL_len 3 (shP (bA hv w) (bB w) (bM w) (bQ w) m)
  have e1 : isW (who : Int) (shW hv w r) = shP (bA hv w) (bB w) (bM w) (bQ w) r who := isW_out (by omega)
  have e2 : isW (who : Int) (shW hv w m) = shP (bA hv w) (bB w) (bM w) (bQ w) m who := isW_out (by omega)
  refine (need_pos (loop61 (0 + 4) (s := shW hv w r) (t := shW hv w m) (by show (outL 3 _).length ≤ 30; omega) (outL_ok' _ _) false)).trans ?_
  refine (need_pos (loop62 (0 + 4) (t := shW hv w m) (by show (outL 3 _).length ≤ 30; omega) (outL_ok' _ _) (false || isW (who : Int) (shW hv w r)))).trans ?_
  rw [Bool.false_or, Bool.false_or, e1, e2]
  have hmono := short_less (ac := bA hv w) (bs := bB w) (ms := bM w) (qs := bQ w) hp hM
  cases h1 : shP (bA hv w) (bB w) (bM w) (bQ w) r who with
  | false => exact need_pos rfl
  | true =>
    rw [hmono h1]
    exact need_pos rfl

set_option maxRecDepth 100000 in
theorem lifted (os : Os) (started : os.Started) (H : Type) (enc : TypeId × Value → H) :
    ReturnsInHanded {} Try.checked os 6 .any (Rows.fitsLessSpec.pre6 enc Try.prog Try.f6 Rows.fitsLessRow.domain false) (Rows.fitsLessSpec.post enc Try.prog Try.f6 false true false false) := by
  refine returnsInHanded_of_change (C := Try.checked) own started (by kernel_rfl) Try.func6
    (ChangeSpec.witness6 (enc := enc) (C := Try.checked) false ⟨#[], #[.slice none 0 0, .int .i64 0, .slice none 0 0, .int .i64 0, .slice none 0 0], []⟩ 8 (by kernel_rfl) (by kernel_rfl) (by kernel_rfl) (by kernel_rfl)) ?_
  intro W base args ds gs before hval0 hW hcnd _
  exact law_contract (H := H) (enc := enc) (s := Rows.fitsLessSpec) (fn := Try.f6) (by kernel_rfl) rfl (n := 8) (Ks := kinds) (by kernel_rfl) (by kernel_rfl) (rt := 4) (by kernel_rfl) (by kernel_rfl)
    (fun ds h => by
      have h' : ds.length = 5 := h
      obtain ⟨d0, d1, d2, d3, d4, rfl⟩ := len5 h'
      exact ⟨rfl, rfl, rfl⟩) runsS W base args ds gs before hval0 hW

theorem over : Rows.fitsLessRow.holds Try.pinned (OpenSpec.ofChange Rows.fitsLessSpec) :=
  OpenClaim.holds_of_wide 6 Try.f6 rfl rfl rfl rfl rfl rfl rfl ⟨rfl, rfl, rfl, rfl, rfl⟩ rfl rfl rfl rfl rfl (by kernel_rfl) Try.func6 (by kernel_rfl)
    (of_decide_eq_true (by kernel_rfl)) (by unfold Func.isWrapper; first | (rw [if_pos (by decide +kernel)]; kernel_rfl) | (rw [if_neg (by decide +kernel)]; exact ⟨rfl, rfl⟩))
    (fun os started H enc _ => lifted os started H enc)

/-- ████ THE STATEMENT ████ -/
theorem proved : Rows.FitsLessSaid :=
  over
#print axioms proved
end Go.Proofs.Ythjcfiekdejdgaa.fitsLess
