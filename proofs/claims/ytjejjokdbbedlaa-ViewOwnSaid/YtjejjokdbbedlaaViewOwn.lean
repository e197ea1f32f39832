/- The statement 'Rows.ViewOwnSaid': its function is run by the pure machine on data of its parameters' kinds; it gives true. No condition. -/
import Derived.Test.YtjejjokdbbedlaaRows
import Derived.Test.YtjejjokdbbedlaaVx
import Derived.WalkKit
import Derived.ProofKit
import Derived.OpenShut
import Derived.ShutString
namespace Go.Proofs.Ytjejjokdbbedlaa.viewOwn
open Go Go.Proofs Go.ChangeShapes Go.WideShapes Go.ChangeAt Go.RowKit Vm
set_option linter.unusedVariables false
set_option linter.unusedSimpArgs false

theorem own : ownKnob Try.prog.godebug = none := by kernel_rfl

def kinds : List Kd := [.slice (.struct [.int .i64, .int .i64, .int .i64, .int .i64, .int .i64, .int .i64, .int .i64]), .int .i64, .int .i64]
theorem same_self (l : List (List DV)) : sameP l l = true := decide_eq_true rfl
def stg (na : Nat) (A : List (List DV)) (i : Nat) (X : List (List DV) → Option DV) : Option DV := cond (decide ((i : Int) < (na : Int))) (cond (decide ((i : Int) < (na : Int))) (lookK A[i]? fun e => cond (decide (1 ≤ e.length)) (X (A.set i (.int .i64 (-1) :: List.drop 1 e))) none) none) (X A)
def nx (A : List (List DV)) (i : Nat) : List (List DV) := cond (decide (i < A.length)) (A.set i (.int .i64 (-1) :: List.drop 1 (A[i]?.getD []))) A
def Nem (A : List (List DV)) : Prop := ∀ e ∈ A, 1 ≤ e.length
theorem stg_eq {na : Nat} {A : List (List DV)} (hn : A.length = na) (h1 : Nem A) (i : Nat) (X : List (List DV) → Option DV) : stg na A i X = X (nx A i) := by
  unfold stg nx
  by_cases h : i < A.length
  · rw [decide_eq_true h, decide_eq_true (show (i : Int) < (na : Int) by omega), cond_true, cond_true, cond_true, look_nat h, decide_eq_true (h1 _ (List.getElem_mem h)), cond_true, gd h]
  · rw [decide_eq_false h, decide_eq_false (show ¬ (i : Int) < (na : Int) by omega), cond_false, cond_false]
theorem nx_len (A : List (List DV)) (i : Nat) : (nx A i).length = A.length := by
  unfold nx
  cases decide (i < A.length)
  · rfl
  · rw [cond_true, List.length_set]
theorem nx_nem {A : List (List DV)} (h : Nem A) (i : Nat) : Nem (nx A i) := by
  unfold nx
  cases decide (i < A.length)
  · exact h
  · rw [cond_true]
    intro e he
    rcases List.mem_or_eq_of_mem_set he with h1 | rfl
    · exact h e h1
    · rw [List.length_cons]
      omega
def stA (A : List (List DV)) : Nat → List (List DV)
  | 0 => A
  | i + 1 => nx (stA A i) i
theorem stA_len (A : List (List DV)) : ∀ i, (stA A i).length = A.length
  | 0 => rfl
  | i + 1 => (nx_len _ _).trans (stA_len A i)
theorem stA_nem {A : List (List DV)} (h : Nem A) : ∀ i, Nem (stA A i)
  | 0 => h
  | i + 1 => nx_nem (stA_nem h i) i
theorem loop60 (p q : Bool) (n : Nat) (t : Int) {r A B C D : List (List DV)} (hl : r.length ≤ 1000) (hA : Nem A) (hB : Nem B) (hC : Nem C) (hD : Nem D) :
    LoopOk (f60 p q true n) (T60 p q true t r none (.aref 21 7 0 r.length) (some (.dat 27 7 r)) A.length B.length C.length D.length A B C D 0) (.ex 0, St.of [(1, .d (.int .i64 t)), (7, .d (.sla false 7 r)), (8, .aref 21 7 0 r.length)] [(18, none), (19, none), (21, some (.dat 27 7 r))]) := by
  refine loop_rounds (fun i : Nat => T60 p q true t r none (.aref 21 7 0 r.length) (some (.dat 27 7 r)) A.length B.length C.length D.length (stA A i) (stA B i) (stA C i) (stA D i) (i : Nat)) (fun _ => (.ex 0, St.of [(1, .d (.int .i64 t)), (7, .d (.sla false 7 r)), (8, .aref 21 7 0 r.length)] [(18, none), (19, none), (21, some (.dat 27 7 r))])) r.length (fun i hi => .inl ⟨fun k => ?_, rfl⟩) ⟨by simp, fun k => ?_⟩ 0 (Nat.zero_le _)
  · have eA := stg_eq (stA_len A i) (stA_nem hA i) i
    have eB := stg_eq (stA_len B i) (stA_nem hB i) i
    have eC := stg_eq (stA_len C i) (stA_nem hC i) i
    have eD := stg_eq (stA_len D i) (stA_nem hD i) i
    cases p <;> cases q
    · refine (s60FFT 20 (n + 8) t r _ _ _ _ _ _ _ _ i k).trans ?_
      rw [lt_dec hi, cond_true, wrap_succ (by omega)]
      exact eD fun D' => k .nrm (T60 false false true t r none (.aref 21 7 0 r.length) (some (.dat 27 7 r)) A.length B.length C.length D.length (stA A (i + 1)) (stA B (i + 1)) (stA C (i + 1)) D' ((i + 1 : Nat) : Int))
    · refine (s60FTT 20 (n + 8) t r _ _ _ _ _ _ _ _ i k).trans ?_
      rw [lt_dec hi, cond_true, wrap_succ (by omega)]
      exact (eB fun B' => stg D.length (stA D i) i fun D' => k .nrm (T60 false true true t r none (.aref 21 7 0 r.length) (some (.dat 27 7 r)) A.length B.length C.length D.length (stA A (i + 1)) B' (stA C (i + 1)) D' ((i + 1 : Nat) : Int))).trans
        (eD fun D' => k .nrm (T60 false true true t r none (.aref 21 7 0 r.length) (some (.dat 27 7 r)) A.length B.length C.length D.length (stA A (i + 1)) (stA B (i + 1)) (stA C (i + 1)) D' ((i + 1 : Nat) : Int)))
    · refine (s60TFT 20 (n + 8) t r _ _ _ _ _ _ _ _ i k).trans ?_
      rw [lt_dec hi, cond_true, wrap_succ (by omega)]
      exact (eA fun A' => stg C.length (stA C i) i fun C' => stg D.length (stA D i) i fun D' => k .nrm (T60 true false true t r none (.aref 21 7 0 r.length) (some (.dat 27 7 r)) A.length B.length C.length D.length A' (stA B (i + 1)) C' D' ((i + 1 : Nat) : Int))).trans
        ((eC fun C' => stg D.length (stA D i) i fun D' => k .nrm (T60 true false true t r none (.aref 21 7 0 r.length) (some (.dat 27 7 r)) A.length B.length C.length D.length (stA A (i + 1)) (stA B (i + 1)) C' D' ((i + 1 : Nat) : Int))).trans
        (eD fun D' => k .nrm (T60 true false true t r none (.aref 21 7 0 r.length) (some (.dat 27 7 r)) A.length B.length C.length D.length (stA A (i + 1)) (stA B (i + 1)) (stA C (i + 1)) D' ((i + 1 : Nat) : Int))))
    · refine (s60TTT 20 (n + 8) t r _ _ _ _ _ _ _ _ i k).trans ?_
      rw [lt_dec hi, cond_true, wrap_succ (by omega)]
      exact (eA fun A' => stg B.length (stA B i) i fun B' => stg C.length (stA C i) i fun C' => stg D.length (stA D i) i fun D' => k .nrm (T60 true true true t r none (.aref 21 7 0 r.length) (some (.dat 27 7 r)) A.length B.length C.length D.length A' B' C' D' ((i + 1 : Nat) : Int))).trans
        ((eB fun B' => stg C.length (stA C i) i fun C' => stg D.length (stA D i) i fun D' => k .nrm (T60 true true true t r none (.aref 21 7 0 r.length) (some (.dat 27 7 r)) A.length B.length C.length D.length (stA A (i + 1)) B' C' D' ((i + 1 : Nat) : Int))).trans
        ((eC fun C' => stg D.length (stA D i) i fun D' => k .nrm (T60 true true true t r none (.aref 21 7 0 r.length) (some (.dat 27 7 r)) A.length B.length C.length D.length (stA A (i + 1)) (stA B (i + 1)) C' D' ((i + 1 : Nat) : Int))).trans
        (eD fun D' => k .nrm (T60 true true true t r none (.aref 21 7 0 r.length) (some (.dat 27 7 r)) A.length B.length C.length D.length (stA A (i + 1)) (stA B (i + 1)) (stA C (i + 1)) D' ((i + 1 : Nat) : Int)))))
  · cases p <;> cases q
    · refine (s60FFT 20 (n + 8) t r _ _ _ _ _ _ _ _ r.length k).trans ?_
      rw [lt_dec_self]
      rfl
    · refine (s60FTT 20 (n + 8) t r _ _ _ _ _ _ _ _ r.length k).trans ?_
      rw [lt_dec_self]
      rfl
    · refine (s60TFT 20 (n + 8) t r _ _ _ _ _ _ _ _ r.length k).trans ?_
      rw [lt_dec_self]
      rfl
    · refine (s60TTT 20 (n + 8) t r _ _ _ _ _ _ _ _ r.length k).trans ?_
      rw [lt_dec_self]
      rfl
theorem spU_ok (p q d : Bool) : ∀ f s, spU p q d f = some s → s.ok Try.prog f := spAdd_ok row7 (spAdd_ok (rdy17o p) (spAdd_ok (of18o q) (spAdd_ok (may8o p) (spAdd_ok (heads14o d) (spAdd_ok same27 (spAdd_ok is20 (spAdd_ok rdy10 (spAdd_ok known13 noSp_ok))))))))
theorem ne_of {n : Nat} {P : Nat → Bool} {row : Nat → List DV} (hn : 0 < n) (h : P 0 = true) : (outN n P row).isEmpty = false := by
  have : row 0 ∈ outN n P row := List.mem_map.2 ⟨0, List.mem_filter.2 ⟨List.mem_range.2 hn, h⟩, rfl⟩
  cases ho : outN n P row with
  | nil => rw [ho] at this; cases this
  | cons a t => rfl
theorem may_e (r : List (List DV)) (t : Int) : (mayL r t).isEmpty = (r.filter (clB 29 t)).isEmpty := by
  unfold mayL
  cases h : r.filter (clB 29 t) with
  | nil => rfl
  | cons a b =>
    refine (ne_of (by rw [List.length_cons]; omega) ?_).trans rfl
    unfold decM seenB
    rw [List.take_zero]
    rfl
theorem hd_e {r : List (List DV)} (hr : 0 < r.length) (hf : ∀ e ∈ r, 0 ≤ frm e ∧ frm e ≤ 2) : (hd9 r).isEmpty = false := by
  refine ne_of hr ?_
  unfold hdB
  rw [gd hr, List.take_zero]
  obtain ⟨h0, h2⟩ := hf _ (List.getElem_mem hr)
  have hk : cel (K9[(frm r[0]).toNat]?.getD []) = 9 := by
    rcases (show frm r[0] = 0 ∨ frm r[0] = 1 ∨ frm r[0] = 2 by omega) with h | h | h <;> rw [h] <;> rfl
  rw [hk, decide_eq_true (show frm r[0] ≥ 0 by omega), decide_eq_true (show frm r[0] < (K9.length : Int) by show _ < (3 : Int); omega)]
  rfl
theorem nem_of {A : List (List DV)} (hz : ∀ e ∈ A, okRow z7 e = true) : Nem A := fun e he => by
  obtain ⟨a0, a1, a2, a3, a4, a5, a6, h⟩ := okRow_p (hz e he)
  rw [h]
  show 1 ≤ 7
  omega
theorem outN_z (n : Nat) (P : Nat → Bool) (l : List (List DV)) : ∀ e ∈ outN n P (rowP l), okRow z7 e = true := fun e he => by
  obtain ⟨i, _, rfl⟩ := List.mem_map.1 he
  rfl
theorem aft_ok (p : Bool) (t : Int) {r : List (List DV)} (hl : r.length ≤ 1000) (hz : ∀ e ∈ r, okRow z7 e = true) (hP : isP r = true) (hp : (r.filter (clB 29 t)).isEmpty = !p) {x : DV} (hx : I7 1000 x) (he : rowsA x = r) : aft p t r x = some (.bool true) := by
  unfold aft
  have hI : I7 1000 (.sla false 7 r) := ⟨Sl.sla _ _ _, hz, hl⟩
  refine (need_pos ⟨_, _, rfl, hI, hx⟩).trans ?_
  rw [he, same_self, cond_true]
  refine (need_pos ⟨_, rfl, hI⟩).trans ?_
  rw [hP, cond_true]
  refine (need_pos ⟨_, _, rfl, Sl.sla _ _ _, hl, hz, hp⟩).trans ((need_pos ⟨_, _, rfl, Sl.sla _ _ _, hl, hz⟩).trans ?_)
  have hzF : ∀ e ∈ r.filter (clB 29 t), okRow z7 e = true := fun e he => hz e (List.mem_filter.1 he).1
  have hlF : (r.filter (clB 29 t)).length ≤ 1000 := Nat.le_trans (List.length_filter_le _ _) hl
  generalize r.filter (clB 29 t) = F at *
  have hIF : I7 1000 (.sla false 7 F) := ⟨Sl.sla _ _ _, hzF, hlF⟩
  cases p with
  | false =>
    have : F = [] := List.isEmpty_iff.1 hp
    subst this
    have hN : I7 1000 .nilsl := ⟨Sl.nil _, fun e he => (by cases he), (by decide)⟩
    exact (need_pos ⟨_, _, rfl, hN, hIF⟩).trans (need_pos rfl)
  | true =>
    unfold aft2
    rw [decide_eq_true (show 0 + F.length ≤ F.length by omega), cond_true, List.take_length]
    refine (need_pos ⟨_, _, rfl, ⟨Sl.sl _ _ _, hzF, hlF⟩, hIF⟩).trans ?_
    rw [same_self, cond_true]
    exact need_pos rfl
theorem runsS (xs : List DV) (h : KVs kinds xs) : Ent Try.prog 6 xs (.bool true) := by
  simp only [kinds, KVs, KV, KC, KCs] at h
  obtain ⟨x, _, rfl, ⟨l, hx, hls⟩, _, _, rfl, ⟨t, ht, _⟩, _, _, rfl, ⟨f, hf, _⟩, rfl⟩ := h
  cases hx
  cases ht
  cases hf
  have hz : ∀ e ∈ l, okRow z7 e = true := fun e he => by
    obtain ⟨_, _, rfl, ⟨a0, rfl, _⟩, _, _, rfl, ⟨a1, rfl, _⟩, _, _, rfl, ⟨a2, rfl, _⟩, _, _, rfl, ⟨a3, rfl, _⟩, _, _, rfl, ⟨a4, rfl, _⟩, _, _, rfl, ⟨a5, rfl, _⟩, _, _, rfl, ⟨a6, rfl, _⟩, rfl⟩ := hls e he
    rfl
  by_cases hl0 : l = []
  · subst hl0
    have hz0 : ∀ e ∈ rowsA (.sla false 7 []), okRow z7 e = true := fun e he => by simp [rowsA] at he
    refine of_FK tabX_ok (spU_ok false false false) (L := 20) (n := 0 + 12) ((t6N 0 t f).trans ?_)
    refine (need_pos ⟨_, rfl, Sl.sla _ _ _, hz0, by decide⟩).trans ?_
    unfold fin6
    refine (need_pos ⟨_, _, rfl, Sl.sla _ _ _, by decide, hz0, rfl⟩).trans ((need_pos ⟨_, _, rfl, Sl.sla _ _ _, by decide, hz0, rfl⟩).trans ((need_pos ⟨_, _, rfl, Sl.sla _ _ _, by decide, hz0, rfl⟩).trans ((need_pos ⟨_, _, rfl, Sl.sla _ _ _, Sl.sl _ _ _, by decide, hz0, rfl, rfl⟩).trans ?_)))
    refine (need_pos (loop_one (by simp) fun k => s60N 0 t _ _ _ _ k)).trans ?_
    exact aft_ok false t (by decide) (fun e he => by cases he) rfl rfl ⟨Sl.sl _ _ _, fun e he => by simp [rowsA] at he, by decide⟩ rfl
  · have hpos : 0 < l.length := List.length_pos_iff.2 hl0
    refine of_FK tabX_ok (spU_ok (!((rowL l).filter (clB 29 t)).isEmpty) (!((rowL l).filter (clB 31 f)).isEmpty) true) (L := 20) (n := 0 + 12) ((t6 _ _ 0 l t f).trans ?_)
    refine cond_of (fun _ => rfl) (fun h => ?_)
    have hl : l.length ≤ 1000 := by
      have := of_decide_eq_false h
      omega
    refine (need_pos ⟨_, rfl, Sl.sla _ _ _, hz, hl⟩).trans ?_
    have hR := rowL_RN l
    have hzr := hR.z
    have hlen := hR.len
    have hlr : (rowL l).length ≤ 1000 := by omega
    have hrp : 0 < (rowL l).length := by omega
    have hfr : ∀ e ∈ rowL l, 0 ≤ frm e ∧ frm e ≤ 2 := fun e he => by
      obtain ⟨j, _, rfl⟩ := hR.src e he
      exact rpF_b _
    have hP := hR.p
    generalize rowL l = r at *
    have hall : (r.all fun (e : List DV) => e.length == 7 && e.all DV.one) = true := by
      rw [List.all_eq_true]
      intro e he
      obtain ⟨a0, a1, a2, a3, a4, a5, a6, h⟩ := okRow_p (hzr e he)
      rw [h]
      rfl
    have hroom : rawZ r = true := by
      refine decide_eq_true ⟨rfl, rfl, rfl, rfl, rfl, ?_, ?_⟩ <;> rw [List.nil_append] <;> unfold room <;> omega
    rw [decide_eq_false (show ¬ r.length = 0 by omega), cond_false, hall, cond_true, hroom, cond_true]
    have hp : (r.filter (clB 29 t)).isEmpty = !(!(r.filter (clB 29 t)).isEmpty) := (Bool.not_not _).symm
    have hq : (r.filter (clB 31 f)).isEmpty = !(!(r.filter (clB 31 f)).isEmpty) := (Bool.not_not _).symm
    have hm : (mayL r t).isEmpty = !(!(r.filter (clB 29 t)).isEmpty) := (may_e r t).trans hp
    generalize (!(r.filter (clB 29 t)).isEmpty) = p at *
    generalize (!(r.filter (clB 31 f)).isEmpty) = q at *
    unfold fin6
    refine (need_pos ⟨_, _, rfl, Sl.sla _ _ _, hlr, hzr, hp⟩).trans ((need_pos ⟨_, _, rfl, Sl.sla _ _ _, hlr, hzr, hq⟩).trans ((need_pos ⟨_, _, rfl, Sl.sla _ _ _, hlr, hzr, hm⟩).trans ((need_pos ⟨_, _, rfl, Sl.sla _ _ _, Sl.sl _ _ _, hlr, hzr, rfl, hd_e hrp hfr⟩).trans ?_)))
    have hN : ∀ φ : List DV → Bool, Nem (r.filter φ) := fun φ => nem_of fun e he => hzr e (List.mem_filter.1 he).1
    refine (need_pos (loop60 p q 0 t hlr (hN _) (hN _) (nem_of (outN_z _ _ _)) (nem_of (outN_z _ _ _)))).trans ?_
    unfold aftR
    rw [decide_eq_true (show 0 + r.length ≤ r.length by omega), cond_true, List.take_length]
    exact aft_ok p t hlr hzr hP hp ⟨Sl.sl _ _ _, hzr, hlr⟩ rfl

set_option maxRecDepth 100000 in
theorem lifted (os : Os) (started : os.Started) (H : Type) (enc : TypeId × Value → H) :
    ReturnsInHanded {} Try.checked os 6 .any (Rows.viewOwnSpec.pre6 enc Try.prog Try.f6 Rows.viewOwnRow.domain false) (Rows.viewOwnSpec.post enc Try.prog Try.f6 false true false false) := by
  refine returnsInHanded_of_change (C := Try.checked) own started (by kernel_rfl) Try.func6
    (ChangeSpec.witness6 (enc := enc) (C := Try.checked) false ⟨#[], #[.slice none 0 0, .int .i64 0, .int .i64 0], []⟩ 8 (by kernel_rfl) (by kernel_rfl) (by kernel_rfl) (by kernel_rfl)) ?_
  intro W base args ds gs before hval0 hW hcnd _
  exact law_contract (H := H) (enc := enc) (s := Rows.viewOwnSpec) (fn := Try.f6) (by kernel_rfl) rfl (n := 8) (Ks := kinds) (by kernel_rfl) (by kernel_rfl) (rt := 4) (by kernel_rfl) (by kernel_rfl)
    (fun ds h => by
      have h' : ds.length = 3 := h
      obtain ⟨d0, d1, d2, rfl⟩ := len3 h'
      exact ⟨rfl, rfl, rfl⟩) runsS W base args ds gs before hval0 hW

theorem over : Rows.viewOwnRow.holds Try.pinned (OpenSpec.ofChange Rows.viewOwnSpec) :=
  OpenClaim.holds_of_wide 6 Try.f6 rfl rfl rfl rfl rfl rfl rfl ⟨rfl, rfl, rfl, rfl, rfl⟩ rfl rfl rfl rfl rfl (by kernel_rfl) Try.func6 (by kernel_rfl)
    (of_decide_eq_true (by kernel_rfl)) (by unfold Func.isWrapper; first | (rw [if_pos (by decide +kernel)]; kernel_rfl) | (rw [if_neg (by decide +kernel)]; exact ⟨rfl, rfl⟩))
    (fun os started H enc _ => lifted os started H enc)

/-- ████ THE STATEMENT ████ -/
theorem proved : Rows.ViewOwnSaid :=
  over
#print axioms proved
end Go.Proofs.Ytjejjokdbbedlaa.viewOwn
