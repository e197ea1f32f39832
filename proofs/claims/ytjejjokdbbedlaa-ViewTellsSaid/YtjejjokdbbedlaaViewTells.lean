/- The statement 'Rows.ViewTellsSaid': its function is run by the pure machine on data of its parameters' kinds; it gives true. No condition. -/
import Derived.Test.YtjejjokdbbedlaaRows
import Derived.Test.YtjejjokdbbedlaaVq
import Derived.WalkKit
import Derived.ProofKit
import Derived.OpenShut
import Derived.ShutString
namespace Go.Proofs.Ytjejjokdbbedlaa.viewTells
open Go Go.Proofs Go.ChangeShapes Go.WideShapes Go.ChangeAt Go.RowKit Vm
set_option linter.unusedVariables false
set_option linter.unusedSimpArgs false

theorem own : ownKnob Try.prog.godebug = none := by kernel_rfl

def kinds : List Kd := [.slice (.struct [.int .i64, .int .i64, .int .i64, .int .i64, .int .i64, .int .i64, .int .i64]), .int .i64, .int .i64, .slice (.int .i64)]
theorem outN_z (n : Nat) (P : Nat → Bool) (l : List (List DV)) : ∀ e ∈ outN n P (rowP l), okRow z7 e = true := fun e he => by
  obtain ⟨i, _, rfl⟩ := List.mem_map.1 he
  rfl
theorem i7_out {n : Nat} (hn : n ≤ 1000) (P : Nat → Bool) (l : List (List DV)) : I7 1000 (.sla false 7 (outN n P (rowP l))) := ⟨Sl.sla _ _ _, outN_z n P l, Nat.le_trans (outN_len n P (rowP l)) hn⟩
theorem i7_flt {l : List (List DV)} (hl : l.length ≤ 1000) (hz : ∀ e ∈ l, okRow z7 e = true) (φ : List DV → Bool) : I7 1000 (.sla false 7 (l.filter φ)) := ⟨Sl.sla _ _ _, fun e he => hz e (List.mem_filter.1 he).1, Nat.le_trans (List.length_filter_le _ _) hl⟩
theorem same_self (l : List (List DV)) : sameP l l = true := decide_eq_true rfl
theorem runsS (xs : List DV) (h : KVs kinds xs) : Ent Try.prog 5 xs (.bool true) := by
  simp only [kinds, KVs, KV, KC, KCs] at h
  obtain ⟨x, _, rfl, ⟨l, hx, hls⟩, _, _, rfl, ⟨t, ht, _⟩, _, _, rfl, ⟨f, hf, _⟩, _, _, rfl, ⟨M, hM, hMs⟩, rfl⟩ := h
  cases hx
  cases ht
  cases hf
  cases hM
  have hz : ∀ e ∈ l, okRow z7 e = true := fun e he => by
    obtain ⟨_, _, rfl, ⟨a0, rfl, _⟩, _, _, rfl, ⟨a1, rfl, _⟩, _, _, rfl, ⟨a2, rfl, _⟩, _, _, rfl, ⟨a3, rfl, _⟩, _, _, rfl, ⟨a4, rfl, _⟩, _, _, rfl, ⟨a5, rfl, _⟩, _, _, rfl, ⟨a6, rfl, _⟩, rfl⟩ := hls e he
    rfl
  have hMi : Ints M := fun e he => by
    obtain ⟨n, rfl, w⟩ := hMs e he
    exact ⟨rfl, wf_i64 w⟩
  refine of_FK tab_ok spV_ok (L := 20) (n := 0 + 12) ((t5 0 l M t f).trans ?_)
  refine cond_of (fun _ => rfl) (fun h => ?_)
  have hlm : l.length ≤ 60 ∧ M.length ≤ 10 := by
    simp at h
    omega
  have hl : l.length ≤ 1000 := by omega
  have hMl : M.length ≤ 1000 := by omega
  refine (need_pos ⟨_, rfl, Sl.sla _ _ _, hz, hl⟩).trans ?_
  cases hp : isP l with
  | false => rfl
  | true =>
    have hn : ND l := ((isP_iff l).1 hp).1
    rw [Bool.not_true, cond_false]
    have hF : ∀ g u, (fltS g).D [.sla false 7 l, .int .i64 u] := fun g u => ⟨_, _, rfl, Sl.sla _ _ _, hl, hz⟩
    have hY : ∀ d, (mayS d).D [.sla false 7 l, .int .i64 t] := fun d => ⟨_, _, rfl, Sl.sla _ _ _, hl, hz⟩
    have hH : (hdS hdB).D [.sla false 7 l, .sla false 1 M] := ⟨_, _, rfl, Sl.sla _ _ _, Sl.sla _ _ _, hl, hMl, hz, hMi⟩
    have hlf : (l.filter (clB 29 t)).length ≤ 1000 := Nat.le_trans (List.length_filter_le _ _) hl
    refine (need_pos (hF _ _)).trans ((need_pos (hF _ _)).trans ((need_pos ⟨_, _, rfl, i7_flt hl hz _, i7_flt hl hz _⟩).trans ?_))
    rw [same_self, cond_true]
    refine (need_pos (hF _ _)).trans ((need_pos (hF _ _)).trans ((need_pos ⟨_, _, rfl, i7_flt hl hz _, i7_flt hl hz _⟩).trans ?_))
    rw [same_self, cond_true]
    refine (need_pos (hY _)).trans ((need_pos (hY _)).trans ((need_pos ⟨_, _, rfl, i7_out hlf _ _, i7_out hlf _ _⟩).trans ?_))
    rw [outN_may (List.Pairwise.filter _ hn), same_self, cond_true]
    refine (need_pos hH).trans ((need_pos hH).trans ((need_pos ⟨_, _, rfl, i7_out hl _ _, i7_out hl _ _⟩).trans ?_))
    rw [same_self, cond_true]
    exact need_pos rfl

set_option maxRecDepth 100000 in
theorem lifted (os : Os) (started : os.Started) (H : Type) (enc : TypeId × Value → H) :
    ReturnsInHanded {} Try.checked os 5 .any (Rows.viewTellsSpec.pre6 enc Try.prog Try.f5 Rows.viewTellsRow.domain false) (Rows.viewTellsSpec.post enc Try.prog Try.f5 false true false false) := by
  refine returnsInHanded_of_change (C := Try.checked) own started (by kernel_rfl) Try.func5
    (ChangeSpec.witness6 (enc := enc) (C := Try.checked) false ⟨#[], #[.slice none 0 0, .int .i64 0, .int .i64 0, .slice none 0 0], []⟩ 8 (by kernel_rfl) (by kernel_rfl) (by kernel_rfl) (by kernel_rfl)) ?_
  intro W base args ds gs before hval0 hW hcnd _
  exact law_contract (H := H) (enc := enc) (s := Rows.viewTellsSpec) (fn := Try.f5) (by kernel_rfl) rfl (n := 8) (Ks := kinds) (by kernel_rfl) (by kernel_rfl) (rt := 4) (by kernel_rfl) (by kernel_rfl)
    (fun ds h => by
      have h' : ds.length = 4 := h
      obtain ⟨d0, d1, d2, d3, rfl⟩ := len4 h'
      exact ⟨rfl, rfl, rfl⟩) runsS W base args ds gs before hval0 hW

theorem over : Rows.viewTellsRow.holds Try.pinned (OpenSpec.ofChange Rows.viewTellsSpec) :=
  OpenClaim.holds_of_wide 5 Try.f5 rfl rfl rfl rfl rfl rfl rfl ⟨rfl, rfl, rfl, rfl, rfl⟩ rfl rfl rfl rfl rfl (by kernel_rfl) Try.func5 (by kernel_rfl)
    (of_decide_eq_true (by kernel_rfl)) (by unfold Func.isWrapper; first | (rw [if_pos (by decide +kernel)]; kernel_rfl) | (rw [if_neg (by decide +kernel)]; exact ⟨rfl, rfl⟩))
    (fun os started H enc _ => lifted os started H enc)

/-- ████ THE STATEMENT ████ -/
theorem proved : Rows.ViewTellsSaid :=
  over
#print axioms proved
end Go.Proofs.Ytjejjokdbbedlaa.viewTells
