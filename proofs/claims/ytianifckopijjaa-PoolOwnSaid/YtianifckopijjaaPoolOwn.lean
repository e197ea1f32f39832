/- The statement 'Rows.PoolOwnSaid': its function is run by the pure machine on data of its parameters' kinds; it gives true. No condition. -/
import Derived.Test.YtianifckopijjaaRows
import Derived.Test.YtianifckopijjaaSd
import Derived.WalkKit
import Derived.ProofKit
import Derived.OpenShut
import Derived.ShutString
namespace Go.Proofs.Ytianifckopijjaa.poolOwn
open Go Go.Proofs Go.ChangeShapes Go.WideShapes Go.ChangeAt Go.RowKit Vm
set_option linter.unusedVariables false
set_option linter.unusedSimpArgs false

theorem own : ownKnob Try.prog.godebug = none := by kernel_rfl

def kinds : List Kd := [.slice (.int .i64), .int .i64, .int .i64]
theorem l11 (L n : Nat) (es : List (List DV)) (i v : Int) : FK tab sp8 lsp5 L (n+8) 11 [.sl .ro 1 es, .int .i64 i, .int .i64 v] =
    (cond (decide ((↑es.length : Int) > (20 : Int)))
     (some (.bool true))
     (cond (decide (es.length = (0 : Nat)))
      (need (setS.D [DV.sl SK.ro (1 : Nat) [], DV.int IntKind.i64 i, DV.int IntKind.i64 v])
       (cond (plainLL (setL [] i v))
        (cond ((↑(setL [] i v).length : Int) != (↑es.length : Int))
         (some (.bool false))
         (need (samS.D [DV.sl SK.ro (1 : Nat) [], DV.sl SK.ro (1 : Nat) es])
          (need (LoopOk (LB tab sp8 lsp5 L (n + (8 : Nat)) h110 c11l0) (St.of [(0, (.d (.sl (SK.ro) 1 es))), (1, (.d (.int .i64 i))), (2, (.d (.int .i64 v))), (8, (.aref 20 1 0 ((setL [] i v).length))), (9, (.d (.int .i64 ((0 : Int)))))] [(20, (.some (.dat 2 1 (setL [] i v))))]) ((.ex 0), (St.of [] [])))
           (need (trueS.D [])
            (some (.bool true))
           )
          )
         )
        )
        none
       )
      )
      (cond (es.all fun e => e.length == (1 : Nat) && e.all DV.one)
       (cond (decide ((2 : Nat) = (2 : Nat) ∧ (1 : Nat) = (1 : Nat) ∧ (1 : Nat) = (1 : Nat) ∧ (0 : Nat) = (0 : Nat) ∧ (0 : Nat) = (0 : Nat) ∧ es.length * (8 : Nat) ≤ room ∧ es.length ≤ room))
        (cond (decide ((0 : Nat) + es.length ≤ es.length))
         (need (setS.D [DV.sl SK.ro (1 : Nat) (List.take es.length es), DV.int IntKind.i64 i, DV.int IntKind.i64 v])
          (cond (plainLL (setL (List.take es.length es) i v))
           (cond ((↑(setL (List.take es.length es) i v).length : Int) != (↑es.length : Int))
            (some (.bool false))
            (cond (decide ((0 : Nat) + es.length ≤ es.length))
             (need (samS.D [DV.sl SK.ro (1 : Nat) (List.take es.length es), DV.sl SK.ro (1 : Nat) es])
              (need (LoopOk (LB tab sp8 lsp5 L (n + (8 : Nat)) h110 c11l0) (St.of [(0, (.d (.sl (SK.ro) 1 es))), (1, (.d (.int .i64 i))), (2, (.d (.int .i64 v))), (8, (.aref 20 1 0 ((setL (List.take es.length es) i v).length))), (9, (.d (.int .i64 ((0 : Int)))))] [(20, (.some (.dat 2 1 (setL (List.take es.length es) i v))))]) ((.ex 0), (St.of [] [])))
               (need (trueS.D [])
                (some (.bool true))
               )
              )
             )
             none
            )
           )
           none
          )
         )
         none
        )
        none
       )
       none
      )
     )
    ) := by kernel_rfl
theorem l11n (L n : Nat) (i v : Int) : FK tab sp8 lsp5 L (n+8) 11 [.nilsl, .int .i64 i, .int .i64 v] =
    (need (setS.D [DV.sl SK.ro (1 : Nat) [], DV.int IntKind.i64 i, DV.int IntKind.i64 v])
     (cond (plainLL (setL [] i v))
      (cond ((↑(setL [] i v).length : Int) != (0 : Int))
       (some (.bool false))
       (need (samS.D [DV.sl SK.ro (1 : Nat) [], DV.nilsl])
        (need (LoopOk (LB tab sp8 lsp5 L (n + (8 : Nat)) h110 c11l0) (St.of [(0, (.d .nilsl)), (1, (.d (.int .i64 i))), (2, (.d (.int .i64 v))), (8, (.aref 20 1 0 ((setL [] i v).length))), (9, (.d (.int .i64 ((0 : Int)))))] [(20, (.some (.dat 2 1 (setL [] i v))))]) ((.ex 0), (St.of [] [])))
         (need (trueS.D [])
          (some (.bool true))
         )
        )
       )
      )
      none
     )
    ) := by kernel_rfl
theorem setS_D (q : SK) {es : List (List DV)} (hz : ∀ e ∈ es, okRow z1 e = true) (hl : es.length ≤ 1000) (i v : Int) : setS.D [.sl q 1 es, .int .i64 i, .int .i64 v] := ⟨q, es, i, v, rfl, hz, hl⟩
theorem setL_nil (i v : Int) : setL [] i v = [] := List.eq_nil_of_length_eq_zero (setL_length [] i v)
theorem bne_len {es x : List (List DV)} (h : x.length = es.length) : (((x.length : Nat) : Int) != ((es.length : Nat) : Int)) = false := by
  rw [h, bne_self_eq_false]
theorem runsS (xs : List DV) (h : KVs kinds xs) : Ent Try.prog 11 xs (.bool true) := by
  simp only [kinds, KVs, KV, KC] at h
  obtain ⟨x, _, rfl, hx, _, _, rfl, ⟨i, hi, _⟩, _, _, rfl, ⟨v, hv, _⟩, rfl⟩ := h
  cases hi
  cases hv
  rcases hx with hx | ⟨es, hx, hes⟩
  · cases hx
    refine of_FK tab_ok sp8_ok (L := 20) (n := 0 + 8) ((l11n 20 0 i v).trans ?_)
    refine (need_pos (setS_D .ro (es := []) (by simp) (by simp) i v)).trans ?_
    rw [setL_nil]
    refine (need_pos (Or.inr ⟨_, rfl⟩)).trans ?_
    exact (need_pos (loop110n 20 (0 + 4) i v)).trans (need_pos rfl)
  · cases hx
    refine of_FK tab_ok sp8_ok (L := 20) (n := 0 + 8) ((l11 20 0 es i v).trans ?_)
    refine cond_of (fun _ => rfl) (fun h => ?_)
    have hl : es.length ≤ 20 := by
      have := of_decide_eq_false h
      omega
    have hz : ∀ e ∈ es, okRow z1 e = true := fun e he => by
      obtain ⟨a, rfl, hw⟩ := hes e he
      rfl
    refine cond_of (fun h0 => ?_) (fun h0 => ?_)
    · have he : es = [] := List.eq_nil_of_length_eq_zero (of_decide_eq_true h0)
      subst he
      refine (need_pos (setS_D .ro hz (by simp) i v)).trans ?_
      rw [plain_rows (setL_rows hz i v), cond_true, bne_len (setL_length [] i v), cond_false]
      refine (need_pos (Or.inl ⟨_, _, _, rfl, hz, by simp⟩)).trans ?_
      exact (need_pos (loop110 20 (0 + 4) [] i v hz (by simp))).trans (need_pos rfl)
    · have hroom : decide ((2 : Nat) = (2 : Nat) ∧ (1 : Nat) = (1 : Nat) ∧ (1 : Nat) = (1 : Nat) ∧ (0 : Nat) = (0 : Nat) ∧ (0 : Nat) = (0 : Nat) ∧ es.length * (8 : Nat) ≤ room ∧ es.length ≤ room) = true :=
        decide_eq_true ⟨rfl, rfl, rfl, rfl, rfl, by unfold room; omega, by unfold room; omega⟩
      have hle : decide ((0 : Nat) + es.length ≤ es.length) = true := decide_eq_true (by omega)
      rw [allOne hz, hroom, hle, List.take_length]
      refine (need_pos (setS_D .ro hz (by omega) i v)).trans ?_
      rw [plain_rows (setL_rows hz i v), cond_true, bne_len (setL_length es i v), cond_false]
      refine (need_pos (Or.inl ⟨_, _, _, rfl, hz, by omega⟩)).trans ?_
      exact (need_pos (loop110 20 (0 + 4) es i v hz (by omega))).trans (need_pos rfl)

set_option maxRecDepth 100000 in
theorem lifted (os : Os) (started : os.Started) (H : Type) (enc : TypeId × Value → H) :
    ReturnsInHanded {} Try.checked os 11 .any (Rows.poolOwnSpec.pre6 enc Try.prog Try.f11 Rows.poolOwnRow.domain false) (Rows.poolOwnSpec.post enc Try.prog Try.f11 false true false false) := by
  refine returnsInHanded_of_change (C := Try.checked) own started (by kernel_rfl) Try.func11
    (ChangeSpec.witness6 (enc := enc) (C := Try.checked) false ⟨#[], #[.slice none 0 0, .int .i64 0, .int .i64 0], []⟩ 8 (by kernel_rfl) (by kernel_rfl) (by kernel_rfl) (by kernel_rfl)) ?_
  intro W base args ds gs before hval0 hW hcnd _
  exact law_contract (H := H) (enc := enc) (s := Rows.poolOwnSpec) (fn := Try.f11) (by kernel_rfl) rfl (n := 8) (Ks := kinds) (by kernel_rfl) (by kernel_rfl) (rt := 4) (by kernel_rfl) (by kernel_rfl)
    (fun ds h => by
      have h' : ds.length = 3 := h
      obtain ⟨d0, d1, d2, rfl⟩ := len3 h'
      exact ⟨rfl, rfl, rfl⟩) runsS W base args ds gs before hval0 hW

theorem over : Rows.poolOwnRow.holds Try.pinned (OpenSpec.ofChange Rows.poolOwnSpec) :=
  OpenClaim.holds_of_wide 11 Try.f11 rfl rfl rfl rfl rfl rfl rfl ⟨rfl, rfl, rfl, rfl, rfl⟩ rfl rfl rfl rfl rfl (by kernel_rfl) Try.func11 (by kernel_rfl)
    (of_decide_eq_true (by kernel_rfl)) (by unfold Func.isWrapper; first | (rw [if_pos (by decide +kernel)]; kernel_rfl) | (rw [if_neg (by decide +kernel)]; exact ⟨rfl, rfl⟩))
    (fun os started H enc _ => lifted os started H enc)

/-- ████ THE STATEMENT ████ -/
theorem proved : Rows.PoolOwnSaid :=
  over
#print axioms proved
end Go.Proofs.Ytianifckopijjaa.poolOwn
