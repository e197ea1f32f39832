/- What is known of the three accounts' books: the proof; they are books. No condition. -/
import Derived.Test.YthjcfiekdejdgaaHd
import Derived.Test.YthjcfiekdejdgaaVmT
namespace Go.Proofs.Ythjcfiekdejdgaa
open Go Go.Proofs Go.RowKit Vm
set_option linter.unusedVariables false
set_option linter.unusedSimpArgs false
def i1 (n : Int) : List DV := [.int .i64 n]
def row3 (a b c : Int) : List DV := [.sla false 1 [i1 a, i1 b, i1 c]]
def ac3 (a b c : Int) : List DV := [.int .i64 a, .int .i64 b, .int .i64 c]
def bit (w : Int) (m : Int) : Bool := and64 w m == m
def bA (h : List (List DV)) (w : Int) : List (List DV) := [ac3 (hvI h 0) (cond (bit w 1) 7 0) 0, ac3 (hvI h 1) 0 (cond (bit w 1) 5 0), ac3 (hvI h 2) (cond (bit w 1) 3 0) (cond (bit w 4) 9 0)]
def bB (w : Int) : List (List DV) := [row3 (-1) (cond (bit w 2) 6 (-1)) (-1), row3 (-1) (-1) (cond (bit w 2) 0 (-1)), row3 (-1) (-1) (-1)]
def bM (w : Int) : List (List DV) := [i1 (cond (bit w 4) 8 (-1)), i1 (-1), i1 (cond (bit w 2) 4 (-1))]
def bQ (w : Int) : List (List DV) := [row3 0 (cond (bit w 4) 3 0) 0, row3 (cond (bit w 4) (-3) 0) 0 0, row3 0 0 0]
def someS : FSpec where
  D ds := ∃ x w, ds = [x, .int .i64 w] ∧ Sl 1 x ∧ ∀ e ∈ rowsA x, okRow z1 e = true
  val ds := match ds with | [x, .int _ w] => some (.agg (bk (bA (rowsA x) w) (bB w) (bM w) (bQ w))) | _ => none
theorem hv_lt {h : List (List DV)} {j : Nat} (hj : j < h.length) : hvI h j = and64 (cel h[j]) 63 := by
  unfold hvI
  rw [decide_eq_true (by omega), cond_true, getD_at hj]
theorem hv_ge {h : List (List DV)} {j : Nat} (hj : ¬ j < h.length) : hvI h j = 0 := by
  unfold hvI
  rw [decide_eq_false (by omega)]
  rfl
theorem loop190 (L n : Nat) {h : List (List DV)} (hz : ∀ e ∈ h, okRow z1 e = true) (w : Int) :
    LoopOk (LB tab noSp lD L (n+4) h190 c19l0) (S190 h w (.d .nilsl) 0 none none) (.ex 0, E190 w (.aref 37 3 0 3) (some (.dat 47 3 (Oa h 3))) none) := by
  refine loop_rounds (fun i : Nat => S190 h w (parV 37 50037 3 (Oa h i)) (i : Nat) (parO1 47 3 (Oa h i)) (parO2 47 3 (Oa h i))) (fun _ => (.ex 0, E190 w (.aref 37 3 0 3) (some (.dat 47 3 (Oa h 3))) none)) 3 (fun i hi => .inl ⟨fun k => ?_, rfl⟩) ⟨by simp, fun k => s190d L n h w (hvI h 0) (hvI h 1) (hvI h 2) k⟩ 0 (Nat.zero_le _)
  match i, hi with
  | 0, _ =>
    refine (s190a L n h w k).trans ?_
    have hw : IntKind.i64.wrap 1 = ((0 + 1 : Nat) : Int) := rfl
    by_cases hj : 0 < h.length
    · rw [decide_eq_true (by omega), cond_true, look_nat hj, hz _ (List.getElem_mem hj), cond_true, hw]
      have e : Oa h (0 + 1) = [[.int .i64 (and64 (cel h[0]) 63), .int .i64 0, .int .i64 0]] := by
        refine Eq.trans (b := [[.int .i64 (hvI h 0), .int .i64 0, .int .i64 0]]) rfl ?_
        rw [hv_lt hj]
      rw [e]
      rfl
    · rw [decide_eq_false (by omega), cond_false, hw]
      have e : Oa h (0 + 1) = [[.int .i64 0, .int .i64 0, .int .i64 0]] := by
        refine Eq.trans (b := [[.int .i64 (hvI h 0), .int .i64 0, .int .i64 0]]) rfl ?_
        rw [hv_ge hj]
      rw [e]
      rfl
  | 1, _ =>
    refine (s190b L n h w (hvI h 0) k).trans ?_
    have hw : IntKind.i64.wrap 2 = ((1 + 1 : Nat) : Int) := rfl
    by_cases hj : 1 < h.length
    · rw [decide_eq_true (by omega), cond_true, look_nat hj, hz _ (List.getElem_mem hj), cond_true, hw]
      have e : Oa h (1 + 1) = [[.int .i64 (hvI h 0), .int .i64 0, .int .i64 0], [.int .i64 (and64 (cel h[1]) 63), .int .i64 0, .int .i64 0]] := by
        refine Eq.trans (b := [[.int .i64 (hvI h 0), .int .i64 0, .int .i64 0], [.int .i64 (hvI h 1), .int .i64 0, .int .i64 0]]) rfl ?_
        rw [hv_lt hj]
      rw [e]
      rfl
    · rw [decide_eq_false (by omega), cond_false, hw]
      have e : Oa h (1 + 1) = [[.int .i64 (hvI h 0), .int .i64 0, .int .i64 0], [.int .i64 0, .int .i64 0, .int .i64 0]] := by
        refine Eq.trans (b := [[.int .i64 (hvI h 0), .int .i64 0, .int .i64 0], [.int .i64 (hvI h 1), .int .i64 0, .int .i64 0]]) rfl ?_
        rw [hv_ge hj]
      rw [e]
      rfl
  | 2, _ =>
    refine (s190c L n h w (hvI h 0) (hvI h 1) k).trans ?_
    have hw : IntKind.i64.wrap 3 = ((2 + 1 : Nat) : Int) := rfl
    by_cases hj : 2 < h.length
    · rw [decide_eq_true (by omega), cond_true, look_nat hj, hz _ (List.getElem_mem hj), cond_true, hw]
      have e : Oa h (2 + 1) = [[.int .i64 (hvI h 0), .int .i64 0, .int .i64 0], [.int .i64 (hvI h 1), .int .i64 0, .int .i64 0], [.int .i64 (and64 (cel h[2]) 63), .int .i64 0, .int .i64 0]] := by
        refine Eq.trans (b := [[.int .i64 (hvI h 0), .int .i64 0, .int .i64 0], [.int .i64 (hvI h 1), .int .i64 0, .int .i64 0], [.int .i64 (hvI h 2), .int .i64 0, .int .i64 0]]) rfl ?_
        rw [hv_lt hj]
      rw [e]
      rfl
    · rw [decide_eq_false (by omega), cond_false, hw]
      have e : Oa h (2 + 1) = [[.int .i64 (hvI h 0), .int .i64 0, .int .i64 0], [.int .i64 (hvI h 1), .int .i64 0, .int .i64 0], [.int .i64 0, .int .i64 0, .int .i64 0]] := by
        refine Eq.trans (b := [[.int .i64 (hvI h 0), .int .i64 0, .int .i64 0], [.int .i64 (hvI h 1), .int .i64 0, .int .i64 0], [.int .i64 (hvI h 2), .int .i64 0, .int .i64 0]]) rfl ?_
        rw [hv_ge hj]
      rw [e]
      rfl
theorem some_res {f : FuncId} {ds : List DV} {A M : List (List DV)} {b0 b1 b2 q0 q1 q2 : List (List DV)}
    (h : EntX Try.prog f ds (.agg [.sl (.own 47) 3 A, .sl (.own2 24) 1 [[.sl (.own 2) 1 b0], [.sl (.own 2) 1 b1], [.sl (.own 2) 1 b2]], .sl (.own 2) 1 M, .sl (.own2 24) 1 [[.sl (.own 2) 1 q0], [.sl (.own 2) 1 q1], [.sl (.own 2) 1 q2]]])) :
    EntX Try.prog f ds (.agg (bk A [[.sla false 1 b0], [.sla false 1 b1], [.sla false 1 b2]] M [[.sla false 1 q0], [.sla false 1 q1], [.sla false 1 q2]])) :=
  EntX.res h (DLe.agg (LLe.cons (DLe.sl _ _ _) (LLe.cons (DLe.sl _ _ _) (LLe.cons (DLe.sl _ _ _) (LLe.cons (DLe.sl _ _ _) LLe.nil))))) rfl
theorem some19 : someS.ok Try.prog 19 := fun ds r hD hv => by
  obtain ⟨x, w, rfl, hx, hz⟩ := hD
  cases hv
  refine EntX.gen1 hx ?_
  generalize rowsA x = h at *
  have ht := (t19 0 h w).trans (need_pos (loop190 20 (0 + 4) hz w))
  unfold bA bB bM bQ
  have e1 : (IntKind.i64.wrap ((BitVec.ofInt IntKind.i64.bits w &&& BitVec.ofInt IntKind.i64.bits (1 : Int)).toNat : Int) == (1 : Int)) = bit w 1 := rfl
  have e2 : (IntKind.i64.wrap ((BitVec.ofInt IntKind.i64.bits w &&& BitVec.ofInt IntKind.i64.bits (2 : Int)).toNat : Int) == (2 : Int)) = bit w 2 := rfl
  have e4 : (IntKind.i64.wrap ((BitVec.ofInt IntKind.i64.bits w &&& BitVec.ofInt IntKind.i64.bits (4 : Int)).toNat : Int) == (4 : Int)) = bit w 4 := rfl
  rw [e1, e2, e4] at ht
  cases h1 : bit w 1 <;> cases h2 : bit w 2 <;> cases h4 : bit w 4 <;> rw [h1, h2, h4] at ht <;> exact some_res (spec_run (lsp := lD) tab_ok noSp_ok 20 (0 + 8) ht)
theorem row3_ok {a b c : Int} (ha : is64 a) (hb : is64 b) (hc : is64 c) : okRow [.nilsl] (row3 a b c) = true ∧ (cellA (row3 a b c) 0).slZ = 1 ∧ ∀ r ∈ (cellA (row3 a b c) 0).slR, okRow z1 r = true ∧ is64 (cel r) := by
  refine ⟨rfl, rfl, fun r hr => ?_⟩
  have hr : r ∈ [i1 a, i1 b, i1 c] := hr
  simp only [List.mem_cons, List.not_mem_nil, or_false] at hr
  rcases hr with rfl | rfl | rfl
  · exact ⟨rfl, ha⟩
  · exact ⟨rfl, hb⟩
  · exact ⟨rfl, hc⟩
theorem hv_b (h : List (List DV)) (j : Nat) : 0 ≤ hvI h j ∧ hvI h j ≤ 63 := by
  by_cases hj : j < h.length
  · rw [hv_lt hj]
    exact and_b (cel h[j]) (m := 63) (by omega)
  · rw [hv_ge hj]
    omega
theorem bk_gen {a0 b0 c0 a1 b1 c1 a2 b2 c2 l01 l12 m0 m2 q01 q10 : Int} (h0 : isA a0 b0 c0) (h1 : isA a1 b1 c1) (h2 : isA a2 b2 c2) (g1 : -1 ≤ l01 ∧ l01 ≤ 1000) (g2 : -1 ≤ l12 ∧ l12 ≤ 1000) (g3 : -1 ≤ m0 ∧ m0 ≤ 1000) (g4 : -1 ≤ m2 ∧ m2 ≤ 1000) (g5 : -1000 ≤ q01 ∧ q01 ≤ 1000) (g6 : -1000 ≤ q10 ∧ q10 ≤ 1000) :
    BK [ac3 a0 b0 c0, ac3 a1 b1 c1, ac3 a2 b2 c2] [row3 (-1) l01 (-1), row3 (-1) (-1) l12, row3 (-1) (-1) (-1)] [i1 m0, i1 (-1), i1 m2] [row3 0 q01 0, row3 q10 0 0, row3 0 0 0] := by
  have i64 : ∀ x : Int, -1000 ≤ x → x ≤ 1000 → is64 x := fun x a b => by unfold is64; omega
  have k1 := i64 (-1) (by omega) (by omega)
  have k0 := i64 0 (by omega) (by omega)
  refine ⟨⟨fun e he => ?_, fun e he => ?_, fun e he => ?_, fun e he => ?_⟩, (show (1 : Nat) ≤ 3 by omega), (show (3 : Nat) ≤ 6 by omega), rfl, rfl, rfl, fun i hi => ?_, fun i hi => ?_, fun i hi => ?_, fun i hi => ?_, fun i j hi hj => ?_, fun i j hi hj => ?_⟩
  · simp only [List.mem_cons, List.not_mem_nil, or_false] at he
    rcases he with rfl | rfl | rfl <;> rfl
  · simp only [List.mem_cons, List.not_mem_nil, or_false] at he
    rcases he with rfl | rfl | rfl
    · exact row3_ok k1 (i64 l01 (by omega) (by omega)) k1
    · exact row3_ok k1 k1 (i64 l12 (by omega) (by omega))
    · exact row3_ok k1 k1 k1
  · simp only [List.mem_cons, List.not_mem_nil, or_false] at he
    rcases he with rfl | rfl | rfl
    · exact ⟨rfl, i64 m0 (by omega) (by omega)⟩
    · exact ⟨rfl, k1⟩
    · exact ⟨rfl, i64 m2 (by omega) (by omega)⟩
  · simp only [List.mem_cons, List.not_mem_nil, or_false] at he
    rcases he with rfl | rfl | rfl
    · exact row3_ok k0 (i64 q01 (by omega) (by omega)) k0
    · exact row3_ok (i64 q10 (by omega) (by omega)) k0 k0
    · exact row3_ok k0 k0 k0
  · have hi : i < 3 := hi
    match i, hi with
    | 0, _ => rfl
    | 1, _ => rfl
    | 2, _ => rfl
  · have hi : i < 3 := hi
    match i, hi with
    | 0, _ => rfl
    | 1, _ => rfl
    | 2, _ => rfl
  · have hi : i < 3 := hi
    match i, hi with
    | 0, _ => exact h0
    | 1, _ => exact h1
    | 2, _ => exact h2
  · have hi : i < 3 := hi
    match i, hi with
    | 0, _ => show -1 ≤ m0 ∧ m0 ≤ 2305843009213693952; omega
    | 1, _ => show (-1 : Int) ≤ -1 ∧ (-1 : Int) ≤ 2305843009213693952; omega
    | 2, _ => show -1 ≤ m2 ∧ m2 ≤ 2305843009213693952; omega
  · have hi : i < 3 := hi
    have hj : j < 3 := hj
    have o : (-1 : Int) ≤ -1 ∧ (-1 : Int) ≤ 2305843009213693952 := by omega
    match i, j, hi, hj with
    | 0, 0, _, _ => exact o
    | 0, 1, _, _ => show -1 ≤ l01 ∧ l01 ≤ 2305843009213693952; omega
    | 0, 2, _, _ => exact o
    | 1, 0, _, _ => exact o
    | 1, 1, _, _ => exact o
    | 1, 2, _, _ => show -1 ≤ l12 ∧ l12 ≤ 2305843009213693952; omega
    | 2, 0, _, _ => exact o
    | 2, 1, _, _ => exact o
    | 2, 2, _, _ => exact o
  · have hi : i < 3 := hi
    have hj : j < 3 := hj
    have o : (-72057594037927936 : Int) < 0 ∧ (0 : Int) < 72057594037927936 := by omega
    match i, j, hi, hj with
    | 0, 0, _, _ => exact o
    | 0, 1, _, _ => show -72057594037927936 < q01 ∧ q01 < 72057594037927936; omega
    | 0, 2, _, _ => exact o
    | 1, 0, _, _ => show -72057594037927936 < q10 ∧ q10 < 72057594037927936; omega
    | 1, 1, _, _ => exact o
    | 1, 2, _, _ => exact o
    | 2, 0, _, _ => exact o
    | 2, 1, _, _ => exact o
    | 2, 2, _, _ => exact o
theorem bk_some (h : List (List DV)) (w : Int) : BK (bA h w) (bB w) (bM w) (bQ w) := by
  have h0 := hv_b h 0
  have h1 := hv_b h 1
  have h2 := hv_b h 2
  unfold bA bB bM bQ
  have c1 : ∀ (b : Bool) (x y : Int), -1000 ≤ x → x ≤ 1000 → -1000 ≤ y → y ≤ 1000 → -1000 ≤ cond b x y ∧ cond b x y ≤ 1000 := fun b x y a1 a2 a3 a4 => by cases b <;> simp only [cond_true, cond_false] <;> omega
  have c0 : ∀ (b : Bool) (x y : Int), 0 ≤ x → x ≤ 1000 → 0 ≤ y → y ≤ 1000 → 0 ≤ cond b x y ∧ cond b x y ≤ 1000 := fun b x y a1 a2 a3 a4 => by cases b <;> simp only [cond_true, cond_false] <;> omega
  have cm : ∀ (b : Bool) (x y : Int), -1 ≤ x → x ≤ 1000 → -1 ≤ y → y ≤ 1000 → -1 ≤ cond b x y ∧ cond b x y ≤ 1000 := fun b x y a1 a2 a3 a4 => by cases b <;> simp only [cond_true, cond_false] <;> omega
  have e1 := c0 (bit w 1) 7 0 (by omega) (by omega) (by omega) (by omega)
  have e2 := c0 (bit w 1) 5 0 (by omega) (by omega) (by omega) (by omega)
  have e3 := c0 (bit w 1) 3 0 (by omega) (by omega) (by omega) (by omega)
  have e4 := c0 (bit w 4) 9 0 (by omega) (by omega) (by omega) (by omega)
  refine bk_gen ?_ ?_ ?_ (cm _ _ _ (by omega) (by omega) (by omega) (by omega)) (cm _ _ _ (by omega) (by omega) (by omega) (by omega)) (cm _ _ _ (by omega) (by omega) (by omega) (by omega)) (cm _ _ _ (by omega) (by omega) (by omega) (by omega)) (c1 _ _ _ (by omega) (by omega) (by omega) (by omega)) (c1 _ _ _ (by omega) (by omega) (by omega) (by omega))
  · unfold isA
    omega
  · unfold isA
    omega
  · unfold isA
    omega
theorem bA_len (h : List (List DV)) (w : Int) : (bA h w).length = 3 := rfl
theorem RN.po {l R : List (List DV)} {i : Nat} (h : RN l R i) : ∀ e ∈ R, PO 3 e := fun e he => by
  obtain ⟨j, _, rfl⟩ := h.src e he
  have f := rpF_b (l[j]?.getD [])
  have t := rpT_b (l[j]?.getD [])
  have a := rpA_b (l[j]?.getD [])
  have c := rpC_b (l[j]?.getD [])
  exact ⟨rp_ok _ _, f.1, by show rpF _ < 3; omega, t.1, by show rpT _ < 3; omega, t.2.2, a.1, by show rpA _ ≤ _; omega, c.1, c.2⟩
end Go.Proofs.Ythjcfiekdejdgaa
