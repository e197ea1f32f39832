/- The statement 'Rows.ViewMaySaid': its function is run by the pure machine on data of its parameters' kinds; it gives true. No condition. -/
import Derived.Test.YtjejjokdbbedlaaRows
import Derived.Test.YtjejjokdbbedlaaVs
import Derived.WalkKit
import Derived.ProofKit
import Derived.OpenShut
import Derived.ShutString
namespace Go.Proofs.Ytjejjokdbbedlaa.viewMay
open Go Go.Proofs Go.ChangeShapes Go.WideShapes Go.ChangeAt Go.RowKit Vm
set_option linter.unusedVariables false
set_option linter.unusedSimpArgs false

theorem own : ownKnob Try.prog.godebug = none := by kernel_rfl

def kinds : List Kd := [.slice (.struct [.int .i64, .int .i64, .int .i64, .int .i64, .int .i64, .int .i64, .int .i64]), .int .i64]
theorem outN_z (n : Nat) (P : Nat → Bool) (l : List (List DV)) : ∀ e ∈ outN n P (rowP l), okRow z7 e = true := fun e he => by
  obtain ⟨i, _, rfl⟩ := List.mem_map.1 he
  rfl
/-- where the first is plain, all are -/
theorem all_of {x : List DV} {xs : List (List DV)} (hs : (x :: xs).Pairwise fun a b => cls a ≤ cls b) (h3 : ∀ e ∈ x :: xs, cls e ≤ 3) (hx : nrB x = true) : (x :: xs).all nrB = true := by
  rw [List.all_eq_true]
  intro e he
  have hx3 : cls x = 3 := beq_iff_eq.1 hx
  have : cls e = 3 := by
    rcases List.mem_cons.1 he with rfl | h
    · exact hx3
    · have h1 := (List.pairwise_cons.1 hs).1 e h
      have h2 := h3 e he
      omega
  exact beq_iff_eq.2 this
theorem loop30 (L n : Nat) {r : List (List DV)} (t : Int) (hl : r.length ≤ 1000) (hz : ∀ e ∈ r, okRow z7 e = true) (hs : r.Pairwise fun a b => ahB a b = true) (h3 : ∀ e ∈ r, cls e ≤ 3) :
    LoopOk (LB tab spT lQ3 L (n+4) h30 c3l0) (T30 t r (outN (r.filter (clB 29 t)).length (decM (r.filter (clB 29 t))) (rowP (r.filter (clB 29 t)))) 0)
      (.ex 0, St.of [(1, .d (.int .i64 t)), (5, .d (.sla false 7 r)), (6, .d (.sla false 7 (outN (r.filter (clB 29 t)).length (decM (r.filter (clB 29 t))) (rowP (r.filter (clB 29 t))))))] [(16, none), (19, none)]) := by
  have hzR : ∀ e ∈ r.filter (clB 29 t), okRow z7 e = true := fun e he => hz e (List.mem_filter.1 he).1
  have hlR : (r.filter (clB 29 t)).length ≤ 1000 := Nat.le_trans (List.length_filter_le _ _) hl
  have hsR : (r.filter (clB 29 t)).Pairwise fun a b => ahB a b = true := List.Pairwise.filter _ hs
  have h3R : ∀ e ∈ r.filter (clB 29 t), cls e ≤ 3 := fun e he => h3 e (List.mem_filter.1 he).1
  refine loop_rounds (fun i : Nat => T30 t r (outN (r.filter (clB 29 t)).length (decM (r.filter (clB 29 t))) (rowP (r.filter (clB 29 t)))) (i : Nat)) (fun _ => (.ex 0, St.of [(1, .d (.int .i64 t)), (5, .d (.sla false 7 r)), (6, .d (.sla false 7 (outN (r.filter (clB 29 t)).length (decM (r.filter (clB 29 t))) (rowP (r.filter (clB 29 t))))))] [(16, none), (19, none)])) 3 (fun i hi => .inl ⟨fun k => ?_, rfl⟩) ⟨by simp, fun k => ?_⟩ 0 (Nat.zero_le _)
  · rw [s30, decide_eq_true (show ((i : Nat) : Int) < 3 by omega), cond_true, wrap_succ (by omega)]
    refine (need_pos ⟨_, _, rfl, Sl.sla _ _ _, hl, hz⟩).trans ((need_pos ⟨_, _, rfl, Sl.sla _ _ _, hlR, hzR⟩).trans ((need_pos ⟨_, _, rfl, Sl.sla _ _ _, Nat.le_trans (outN_len _ _ _) hlR, outN_z _ _ _⟩).trans ?_))
    have e := mfil hzR (i : Int)
    rw [e]
    generalize r.filter (clB 29 t) = R at *
    have hza : ∀ x ∈ R.filter (clB 31 (i : Int)), okRow z7 x = true := fun x hx => hzR x (List.mem_filter.1 hx).1
    have hsa : (R.filter (clB 31 (i : Int))).Pairwise fun a b => cls a ≤ cls b := by
      refine List.Pairwise.imp_of_mem (fun {a b} ha hb hab => ?_) (List.Pairwise.filter (clB 31 (i : Int)) hsR)
      have fa : frm a = (i : Int) := beq_iff_eq.1 (List.mem_filter.1 ha).2
      have fb : frm b = (i : Int) := beq_iff_eq.1 (List.mem_filter.1 hb).2
      unfold ahB at hab
      simp at hab
      omega
    have h3a : ∀ x ∈ R.filter (clB 31 (i : Int)), cls x ≤ 3 := fun x hx => h3R x (List.mem_filter.1 hx).1
    generalize R.filter (clB 31 (i : Int)) = a at *
    cases a with
    | nil => rfl
    | cons x xs =>
      have hp : ∀ (y : List DV) (ys : List (List DV)), decide ((((y :: ys).length : Nat) : Int) > 0) = true := fun y ys => decide_eq_true (by rw [List.length_cons]; omega)
      have hzx : okRow z7 x = true := hza x (List.mem_cons_self ..)
      cases hx : nrB x with
      | true =>
        have hcx : ((cellA x 4).toI == (3 : Int)) = true := hx
        rw [all_of hsa h3a hx, cond_true]
        simp only [hp, List.getElem?_cons_zero, lookK_some, hzx, cond_true, cond_false, beq_self_eq_true, Bool.and_self, Bool.not_true, bne_self_eq_false, hcx]
        rfl
      | false =>
        have hcx : ((cellA x 4).toI == (3 : Int)) = false := hx
        rw [show (x :: xs).all nrB = false by rw [List.all_cons, hx, Bool.false_and], cond_false, show (x :: xs).take 1 = [x] from rfl]
        simp only [hp, List.getElem?_cons_zero, lookK_some, hzx, cond_true, cond_false, beq_self_eq_true, Bool.and_self, Bool.not_true, Bool.not_false, bne_self_eq_false, hcx]
        rfl
  · rw [s30]
    rfl
theorem loop31 (L n : Nat) {r m : List (List DV)} (t : Int) (hr : I7 1000 (.sla false 7 r)) (hl : m.length ≤ 1000) (hz : ∀ e ∈ m, okRow z7 e = true) (hy : ∀ e ∈ m, rdy t e = true) (hu : m.Pairwise fun a b => fI r (idO a) < fI r (idO b)) :
    LoopOk (LB tab spT lQ3 L (n+4) h31 c3l1) (T31 t r m 0) (.ex 2, St.of [] []) := by
  refine loop_rounds (fun i : Nat => T31 t r m (i : Nat)) (fun _ => (.ex 2, St.of [] [])) m.length (fun i hi => .inl ⟨fun k => ?_, rfl⟩) ⟨by simp, fun k => ?_⟩ 0 (Nat.zero_le _)
  · have hyi := hy _ (List.getElem_mem hi)
    rw [s31, lt_dec hi, cond_true, look_nat hi, hz _ (List.getElem_mem hi), cond_true, wrap_succ (by omega)]
    refine (need_pos ⟨_, _, rfl⟩).trans ?_
    have hrd : rdy t [.int .i64 (cellA m[i] 0).toI, .int .i64 (cellA m[i] 1).toI, .int .i64 (cellA m[i] 2).toI, .int .i64 (cellA m[i] 3).toI, .int .i64 (cellA m[i] 4).toI, .int .i64 (cellA m[i] 5).toI, .int .i64 (cellA m[i] 6).toI] = true := hyi
    rw [hrd]
    cases i with
    | zero => rfl
    | succ j =>
      have hj : j < m.length := by omega
      have hw : IntKind.i64.wrap (((j + 1 : Nat) : Int) - 1) = ((j : Nat) : Int) := by
        rw [wrap_fits (by omega) (by omega)]
        omega
      rw [decide_eq_true (show ((j + 1 : Nat) : Int) > 0 by omega), cond_true, Bool.not_true, cond_false, look_nat hi, hz _ (List.getElem_mem hi), cond_true]
      refine (need_pos ⟨_, _, rfl, hr⟩).trans ?_
      rw [hw, decide_eq_true (show (0 : Int) ≤ ((j : Nat) : Int) by omega), cond_true, Int.toNat_natCast, look_nat hj, hz _ (List.getElem_mem hj), cond_true]
      refine (need_pos ⟨_, _, rfl, hr⟩).trans ?_
      have hlt := (List.pairwise_iff_getElem.1 hu) j (j + 1) hj hi (by omega)
      rw [decide_eq_false (show ¬ fI r (cellA m[j + 1] 0).toI ≤ fI r (cellA m[j] 0).toI by show ¬ fI r (idO m[j + 1]) ≤ fI r (idO m[j]); omega)]
      rfl
  · rw [s31, lt_dec_self]
    rfl
theorem runsS (xs : List DV) (h : KVs kinds xs) : Ent Try.prog 3 xs (.bool true) := by
  simp only [kinds, KVs, KV, KC, KCs] at h
  obtain ⟨x, _, rfl, ⟨l, hx, hls⟩, _, _, rfl, ⟨t, ht, _⟩, rfl⟩ := h
  cases hx
  cases ht
  have hz : ∀ e ∈ l, okRow z7 e = true := fun e he => by
    obtain ⟨_, _, rfl, ⟨a0, rfl, _⟩, _, _, rfl, ⟨a1, rfl, _⟩, _, _, rfl, ⟨a2, rfl, _⟩, _, _, rfl, ⟨a3, rfl, _⟩, _, _, rfl, ⟨a4, rfl, _⟩, _, _, rfl, ⟨a5, rfl, _⟩, _, _, rfl, ⟨a6, rfl, _⟩, rfl⟩ := hls e he
    rfl
  refine of_FK tab_ok spT_ok (L := 20) (n := 0 + 8) ((t3 0 l t).trans ?_)
  refine cond_of (fun _ => rfl) (fun h => ?_)
  have hl : l.length ≤ 1000 := by
    have := of_decide_eq_false h
    omega
  refine (need_pos ⟨_, rfl, Sl.sla _ _ _, hz, hl⟩).trans ?_
  have hR := rowL_RN l
  have hzr := hR.z
  have hlr : (rowL l).length ≤ 1000 := by
    rw [hR.len]
    omega
  obtain ⟨hn, _, hs⟩ := (isP_iff _).1 hR.p
  have h3 : ∀ e ∈ rowL l, cls e ≤ 3 := fun e he => by
    obtain ⟨j, _, rfl⟩ := hR.src e he
    exact (rpC_b _).2
  generalize rowL l = r at *
  have hI : I7 1000 (.sla false 7 r) := ⟨Sl.sla _ _ _, hzr, hlr⟩
  have hzR : ∀ e ∈ r.filter (clB 29 t), okRow z7 e = true := fun e he => hzr e (List.mem_filter.1 he).1
  have hlR : (r.filter (clB 29 t)).length ≤ 1000 := Nat.le_trans (List.length_filter_le _ _) hlr
  have hsub := outN_sub hzR (decM (r.filter (clB 29 t)))
  refine (need_pos ⟨_, _, rfl, Sl.sla _ _ _, hlr, hzr⟩).trans ?_
  refine (need_pos (loop30 20 (0 + 4) t hlr hzr hs h3)).trans ?_
  refine (need_pos (loop31 20 (0 + 4) t hI (Nat.le_trans (outN_len _ _ _) hlR) (outN_z _ _ _) (fun e he => (List.mem_filter.1 (hsub.subset he)).2) (((find_up hn).sublist List.filter_sublist).sublist hsub))).trans ?_
  exact need_pos rfl

set_option maxRecDepth 100000 in
theorem lifted (os : Os) (started : os.Started) (H : Type) (enc : TypeId × Value → H) :
    ReturnsInHanded {} Try.checked os 3 .any (Rows.viewMaySpec.pre6 enc Try.prog Try.f3 Rows.viewMayRow.domain false) (Rows.viewMaySpec.post enc Try.prog Try.f3 false true false false) := by
  refine returnsInHanded_of_change (C := Try.checked) own started (by kernel_rfl) Try.func3
    (ChangeSpec.witness6 (enc := enc) (C := Try.checked) false ⟨#[], #[.slice none 0 0, .int .i64 0], []⟩ 8 (by kernel_rfl) (by kernel_rfl) (by kernel_rfl) (by kernel_rfl)) ?_
  intro W base args ds gs before hval0 hW hcnd _
  exact law_contract (H := H) (enc := enc) (s := Rows.viewMaySpec) (fn := Try.f3) (by kernel_rfl) rfl (n := 8) (Ks := kinds) (by kernel_rfl) (by kernel_rfl) (rt := 4) (by kernel_rfl) (by kernel_rfl)
    (fun ds h => by
      have h' : ds.length = 2 := h
      obtain ⟨d0, d1, rfl⟩ := len2 h'
      exact ⟨rfl, rfl, rfl⟩) runsS W base args ds gs before hval0 hW

theorem over : Rows.viewMayRow.holds Try.pinned (OpenSpec.ofChange Rows.viewMaySpec) :=
  OpenClaim.holds_of_wide 3 Try.f3 rfl rfl rfl rfl rfl rfl rfl ⟨rfl, rfl, rfl, rfl, rfl⟩ rfl rfl rfl rfl rfl (by kernel_rfl) Try.func3 (by kernel_rfl)
    (of_decide_eq_true (by kernel_rfl)) (by unfold Func.isWrapper; first | (rw [if_pos (by decide +kernel)]; kernel_rfl) | (rw [if_neg (by decide +kernel)]; exact ⟨rfl, rfl⟩))
    (fun os started H enc _ => lifted os started H enc)

/-- ████ THE STATEMENT ████ -/
theorem proved : Rows.ViewMaySaid :=
  over
#print axioms proved
end Go.Proofs.Ytjejjokdbbedlaa.viewMay
