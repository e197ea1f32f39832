/- The statement 'Rows.ViewHeadsSaid': its function is run by the pure machine on data of its parameters' kinds; it gives true. No condition. -/
import Derived.Test.YtjejjokdbbedlaaRows
import Derived.Test.YtjejjokdbbedlaaVr
import Derived.WalkKit
import Derived.ProofKit
import Derived.OpenShut
import Derived.ShutString
namespace Go.Proofs.Ytjejjokdbbedlaa.viewHeads
open Go Go.Proofs Go.ChangeShapes Go.WideShapes Go.ChangeAt Go.RowKit Vm
set_option linter.unusedVariables false
set_option linter.unusedSimpArgs false

theorem own : ownKnob Try.prog.godebug = none := by kernel_rfl

def kinds : List Kd := [.slice (.struct [.int .i64, .int .i64, .int .i64, .int .i64, .int .i64, .int .i64, .int .i64]), .slice (.int .i64)]
theorem outN_z (n : Nat) (P : Nat → Bool) (l : List (List DV)) : ∀ e ∈ outN n P (rowP l), okRow z7 e = true := fun e he => by
  obtain ⟨i, _, rfl⟩ := List.mem_map.1 he
  rfl
theorem same_self (l : List (List DV)) : sameP l l = true := decide_eq_true rfl
theorem loop40 (L n : Nat) {r M : List (List DV)} (hl : r.length ≤ 1000) (hz : ∀ e ∈ r, okRow z7 e = true) (hM : Ints M) (h3 : 3 ≤ M.length) :
    LoopOk (LB tab spH4 lQ4 L (n+4) h40 c4l0) (T40 M r (outN r.length (hdB M r) (rowP r)) 0) (.ex 0, St.of [(5, .d (.sla false 7 r))] [(24, none)]) := by
  have hzh := outN_z r.length (hdB M r) r
  have hlh : (outN r.length (hdB M r) (rowP r)).length ≤ 1000 := Nat.le_trans (outN_len _ _ _) hl
  refine loop_rounds (fun i : Nat => T40 M r (outN r.length (hdB M r) (rowP r)) (i : Nat)) (fun _ => (.ex 0, St.of [(5, .d (.sla false 7 r))] [(24, none)])) 3 (fun i hi => .inl ⟨fun k => ?_, rfl⟩) ⟨by simp, fun k => ?_⟩ 0 (Nat.zero_le _)
  · have hiM : i < M.length := by omega
    rw [s40, decide_eq_true (show ((i : Nat) : Int) < 3 by omega), cond_true]
    refine (need_pos ⟨_, _, rfl, Sl.sla _ _ _, hl, hz⟩).trans ((need_pos ⟨_, _, rfl, Sl.sla _ _ _, hlh, hzh⟩).trans ?_)
    have e := hfil (M := M) hz (f := (i : Int)) (by omega) (by omega)
    rw [Int.toNat_natCast, gd hiM] at e
    have hza : ∀ x ∈ r.filter (clB 31 (i : Int)), okRow z7 x = true := fun x hx => hz x (List.mem_filter.1 hx).1
    have hla : (r.filter (clB 31 (i : Int))).length ≤ 1000 := Nat.le_trans (List.length_filter_le _ _) hl
    rw [look_nat hiM, (hM _ (List.getElem_mem hiM)).1, cond_true, e]
    generalize r.filter (clB 31 (i : Int)) = a at *
    have hc : cel M[i] = (cellA M[i] 0).toI := rfl
    rw [hc]
    generalize (cellA M[i] 0).toI = c at *
    have h1 : (((a.take c.toNat).length : Int) != (if (a.length : Int) < (if (0 : Int) > c then 0 else c) then (a.length : Int) else (if (0 : Int) > c then 0 else c))) = false := by
      rw [bne_eq_false_iff_eq, List.length_take]
      by_cases h0 : (0 : Int) > c
      · rw [if_pos h0]
        split <;> omega
      · rw [if_neg h0]
        split <;> omega
    have h2 : a.take (a.take c.toNat).length = a.take c.toNat := by rw [List.length_take, ← List.take_take, List.take_length]
    rw [h1, cond_false, decide_eq_true (show (a.take c.toNat).length ≤ a.length by rw [List.length_take]; omega), cond_true, h2]
    have hI : ∀ q, I7 1000 (.sla q 7 (a.take c.toNat)) := fun q => ⟨Sl.sla _ _ _, fun x hx => hza x (List.mem_of_mem_take hx), by show (a.take c.toNat).length ≤ 1000; rw [List.length_take]; omega⟩
    refine (need_pos ⟨_, _, rfl, hI _, hI _⟩).trans ?_
    rw [same_self, wrap_succ (by omega)]
    rfl
  · rw [s40]
    rfl
def K99 : List (List DV) := [[.int .i64 99], [.int .i64 99], [.int .i64 99]]
theorem heads99 {r : List (List DV)} (hz : ∀ e ∈ r, okRow z7 e = true) (hl : r.length ≤ 40) (hf : ∀ e ∈ r, 0 ≤ frm e ∧ frm e ≤ 2) : outN r.length (hdB K99 r) (rowP r) = r := by
  have h : outN r.length (hdB K99 r) (rowP r) = outN r.length (fun i => (fun _ => true) (r[i]?.getD [])) (rowP r) := outN_congr (fun i hi => by
    show hdB K99 r i = true
    unfold hdB
    rw [gd hi]
    obtain ⟨h0, h2⟩ := hf _ (List.getElem_mem hi)
    have hcount : ((r.take i).filter (clB 31 (frm r[i]))).length ≤ 40 := Nat.le_trans (List.length_filter_le _ _) (by rw [List.length_take]; omega)
    generalize ((r.take i).filter (clB 31 (frm r[i]))).length = c at *
    have hk : cel (K99[(frm r[i]).toNat]?.getD []) = 99 := by
      rcases (show frm r[i] = 0 ∨ frm r[i] = 1 ∨ frm r[i] = 2 by omega) with h | h | h <;> rw [h] <;> rfl
    rw [hk, decide_eq_true (show frm r[i] ≥ 0 by omega), decide_eq_true (show frm r[i] < (K99.length : Int) by show _ < (3 : Int); omega), decide_eq_true (show (c : Int) < 99 by omega)]
    rfl) fun _ _ => rfl
  rw [h, outN_filter hz (fun _ => true)]
  simp
theorem runsS (xs : List DV) (h : KVs kinds xs) : Ent Try.prog 4 xs (.bool true) := by
  simp only [kinds, KVs, KV, KC, KCs] at h
  obtain ⟨x, _, rfl, ⟨l, hx, hls⟩, _, _, rfl, ⟨M, hM, hMs⟩, rfl⟩ := h
  cases hx
  cases hM
  have hz : ∀ e ∈ l, okRow z7 e = true := fun e he => by
    obtain ⟨_, _, rfl, ⟨a0, rfl, _⟩, _, _, rfl, ⟨a1, rfl, _⟩, _, _, rfl, ⟨a2, rfl, _⟩, _, _, rfl, ⟨a3, rfl, _⟩, _, _, rfl, ⟨a4, rfl, _⟩, _, _, rfl, ⟨a5, rfl, _⟩, _, _, rfl, ⟨a6, rfl, _⟩, rfl⟩ := hls e he
    rfl
  have hMi : Ints M := fun e he => by
    obtain ⟨n, rfl, w⟩ := hMs e he
    exact ⟨rfl, wf_i64 w⟩
  refine of_FK tab_ok spH4_ok (L := 20) (n := 0 + 8) ((t4 0 l M).trans ?_)
  refine cond_of (fun _ => rfl) (fun h => ?_)
  have hlm : l.length ≤ 40 ∧ 3 ≤ M.length ∧ M.length ≤ 6 := by
    simp at h
    omega
  have hl : l.length ≤ 1000 := by omega
  have hMl : M.length ≤ 1000 := by omega
  refine (need_pos ⟨_, rfl, Sl.sla _ _ _, hz, hl⟩).trans ?_
  have hR := rowL_RN l
  have hzr := hR.z
  have hlr : (rowL l).length ≤ 40 := by
    rw [hR.len]
    omega
  have hfr : ∀ e ∈ rowL l, 0 ≤ frm e ∧ frm e ≤ 2 := fun e he => by
    obtain ⟨j, _, rfl⟩ := hR.src e he
    exact rpF_b _
  generalize rowL l = r at *
  have hlr' : r.length ≤ 1000 := by omega
  have hI : I7 1000 (.sla false 7 r) := ⟨Sl.sla _ _ _, hzr, hlr'⟩
  have hK : Ints K99 := fun e he => by
    simp only [K99, List.mem_cons, List.not_mem_nil, or_false, or_self] at he
    subst he
    exact ⟨rfl, by unfold is64 cel; decide⟩
  refine (need_pos ⟨_, _, rfl, Sl.sla _ _ _, Sl.sla _ _ _, hlr', hMl, hzr, hMi⟩).trans ?_
  refine (need_pos (loop40 20 (0 + 4) hlr' hzr hMi (by omega))).trans ?_
  refine (need_pos ⟨_, _, rfl, Sl.sla _ _ _, Sl.sl _ _ _, hlr', by decide, hzr, hK⟩).trans ?_
  have e99 : outN r.length (hdB [[.int .i64 99], [.int .i64 99], [.int .i64 99]] r) (rowP r) = r := heads99 hzr hlr hfr
  rw [e99]
  refine (need_pos ⟨_, _, rfl, hI, hI⟩).trans ?_
  rw [same_self, cond_true]
  refine (need_pos ⟨_, _, rfl, Sl.sla _ _ _, Sl.nil _, hlr', by decide, hzr, fun e he => by cases he⟩).trans ?_
  rw [hd_nil]
  exact need_pos rfl

set_option maxRecDepth 100000 in
theorem lifted (os : Os) (started : os.Started) (H : Type) (enc : TypeId × Value → H) :
    ReturnsInHanded {} Try.checked os 4 .any (Rows.viewHeadsSpec.pre6 enc Try.prog Try.f4 Rows.viewHeadsRow.domain false) (Rows.viewHeadsSpec.post enc Try.prog Try.f4 false true false false) := by
  refine returnsInHanded_of_change (C := Try.checked) own started (by kernel_rfl) Try.func4
    (ChangeSpec.witness6 (enc := enc) (C := Try.checked) false ⟨#[], #[.slice none 0 0, .slice none 0 0], []⟩ 8 (by kernel_rfl) (by kernel_rfl) (by kernel_rfl) (by kernel_rfl)) ?_
  intro W base args ds gs before hval0 hW hcnd _
  exact law_contract (H := H) (enc := enc) (s := Rows.viewHeadsSpec) (fn := Try.f4) (by kernel_rfl) rfl (n := 8) (Ks := kinds) (by kernel_rfl) (by kernel_rfl) (rt := 4) (by kernel_rfl) (by kernel_rfl)
    (fun ds h => by
      have h' : ds.length = 2 := h
      obtain ⟨d0, d1, rfl⟩ := len2 h'
      exact ⟨rfl, rfl, rfl⟩) runsS W base args ds gs before hval0 hW

theorem over : Rows.viewHeadsRow.holds Try.pinned (OpenSpec.ofChange Rows.viewHeadsSpec) :=
  OpenClaim.holds_of_wide 4 Try.f4 rfl rfl rfl rfl rfl rfl rfl ⟨rfl, rfl, rfl, rfl, rfl⟩ rfl rfl rfl rfl rfl (by kernel_rfl) Try.func4 (by kernel_rfl)
    (of_decide_eq_true (by kernel_rfl)) (by unfold Func.isWrapper; first | (rw [if_pos (by decide +kernel)]; kernel_rfl) | (rw [if_neg (by decide +kernel)]; exact ⟨rfl, rfl⟩))
    (fun os started H enc _ => lifted os started H enc)

/-- ████ THE STATEMENT ████ -/
theorem proved : Rows.ViewHeadsSaid :=
  over
#print axioms proved
end Go.Proofs.Ytjejjokdbbedlaa.viewHeads
