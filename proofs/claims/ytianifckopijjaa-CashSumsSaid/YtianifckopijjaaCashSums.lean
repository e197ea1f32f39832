/- The statement 'Rows.CashSumsSaid': its function is run by the pure machine on data of its parameters' kinds; it gives true. No condition. -/
import Derived.Test.YtianifckopijjaaRows
import Derived.Test.YtianifckopijjaaSc
import Derived.WalkKit
import Derived.ProofKit
import Derived.OpenShut
import Derived.ShutString
namespace Go.Proofs.Ytianifckopijjaa.cashSums
open Go Go.Proofs Go.ChangeShapes Go.WideShapes Go.ChangeAt Go.RowKit Vm
set_option linter.unusedVariables false
set_option linter.unusedSimpArgs false

theorem own : ownKnob Try.prog.godebug = none := by kernel_rfl

def kinds : List Kd := [.slice (.int .i64), .int .i64]
noncomputable def sp7 : FuncId → Option FSpec := spAdd 15 trueS (spAdd 14 sumS (spAdd 13 sumS noSp))
theorem sp7_ok : ∀ f s, sp7 f = some s → s.ok Try.prog f := spAdd_ok known15 (spAdd_ok sum14 (spAdd_ok sum13 noSp_ok))
/-- the numbers, turned -/
def gC (es : List (List DV)) (j : Nat) : Int := cel (es.getD j [])
def fC (es : List (List DV)) (T j : Nat) : Int := gC es ((j + T) % es.length)
def mL (es : List (List DV)) (T i : Nat) : List (List DV) := (List.range i).map fun j => [DV.int .i64 (fC es T j)]
def tB (t : Int) : Nat := (t % 64).toNat
def site (i : Nat) : Nat := cond (decide (i % 2 = 1)) 44 50044
def S30 (es m : List (List DV)) (t : Int) (a b c d : DV) (s : Nat) (i : Int) : St := St.of [(0, .d (.sl .ro 1 es)), (1, .d (.int .i64 t)), (5, .d a), (6, .d b), (7, .d c), (8, .d d), (9, .aref s 1 0 m.length), (10, .d (.int .i64 i))] [(18, none), (23, none), (44, cond (Nat.beq s 44) (some (.dat 2 1 m)) none), (50044, cond (Nat.beq s 44) none (some (.dat 2 1 m)))]
def S30n (es : List (List DV)) (t : Int) (a b c d : DV) : St := St.of [(0, .d (.sl .ro 1 es)), (1, .d (.int .i64 t)), (5, .d a), (6, .d b), (7, .d c), (8, .d d), (9, .d .nilsl), (10, .d (.int .i64 0))] [(18, none), (23, none), (44, none), (50044, none)]
def E44 (m : List (List DV)) (a b c d : DV) : St := St.of [(5, .d a), (6, .d b), (7, .d c), (8, .d d), (9, .aref 44 1 0 m.length)] [(18, none), (23, none), (44, some (.dat 2 1 m)), (50044, none)]
def E500 (m : List (List DV)) (a b c d : DV) : St := St.of [(5, .d a), (6, .d b), (7, .d c), (8, .d d), (9, .aref 50044 1 0 m.length)] [(18, none), (23, none), (44, none), (50044, some (.dat 2 1 m))]
def E30n (a b c d : DV) : St := St.of [(5, .d a), (6, .d b), (7, .d c), (8, .d d), (9, .d .nilsl)] [(18, none), (23, none), (44, none), (50044, none)]
def end30 (es : List (List DV)) (t : Int) (a b c d : DV) : LR :=
  .br (decide (es.length = 0)) (.one (.ex 0) (E30n a b c d)) (.br (decide (es.length % 2 = 1)) (.one (.ex 0) (E44 (mL es (tB t) es.length) a b c d)) (.one (.ex 0) (E500 (mL es (tB t) es.length) a b c d)))
def l30 : LSpec := fun st =>
  match st.env 0, st.env 1, st.env 5, st.env 6, st.env 7, st.env 8 with
  | .d (.sl _ _ es), .d (.int _ t), .d a, .d b, .d c, .d d => end30 es t a b c d
  | _, _, _, _, _, _ => .no
def lsp3 (k : Nat) : Option LSpec := if k = 30 then some l30 else none
theorem l3 (L n : Nat) (es : List (List DV)) (t : Int) : FK tab sp7 lsp3 L (n+8) 3 [.sl .ro 1 es, .int .i64 t] =
    (cond (decide ((↑es.length : Int) > (60 : Int)))
     (some (.bool true))
     (need (sumS.D [DV.sl SK.ro (1 : Nat) es])
      (need (sumS.D [DV.sl SK.ro (1 : Nat) es])
       (cond (decide (es.length = (0 : Nat)))
        (need (LoopOk (LB tab sp7 lsp3 L (n + (8 : Nat)) h30 c3l0) (St.of [(0, (.d (.sl (SK.ro) 1 es))), (1, (.d (.int .i64 t))), (5, (.d (.int .i64 (bif fitsB (sumZ (rows (DV.sl SK.ro (1 : Nat) es))) then sumZ (rows (DV.sl SK.ro (1 : Nat) es)) else (0 : Int))))), (6, (.d (.bool (fitsB (sumZ (rows (DV.sl SK.ro (1 : Nat) es))))))), (7, (.d (.int .i64 (bif fitsB (sumZ (rows (DV.sl SK.ro (1 : Nat) es))) then sumZ (rows (DV.sl SK.ro (1 : Nat) es)) else (0 : Int))))), (8, (.d (.bool (fitsB (sumZ (rows (DV.sl SK.ro (1 : Nat) es))))))), (9, (.d .nilsl)), (10, (.d (.int .i64 ((0 : Int)))))] [(18, .none), (23, .none), (44, .none), (50044, .none)]) ((.ex 0), (St.of [(5, (.d (.int .i64 (bif fitsB (sumZ (rows (DV.sl SK.ro (1 : Nat) es))) then sumZ (rows (DV.sl SK.ro (1 : Nat) es)) else (0 : Int))))), (6, (.d (.bool (fitsB (sumZ (rows (DV.sl SK.ro (1 : Nat) es))))))), (7, (.d (.int .i64 (bif fitsB (sumZ (rows (DV.sl SK.ro (1 : Nat) es))) then sumZ (rows (DV.sl SK.ro (1 : Nat) es)) else (0 : Int))))), (8, (.d (.bool (fitsB (sumZ (rows (DV.sl SK.ro (1 : Nat) es))))))), (9, (.d .nilsl))] [(18, .none), (23, .none), (44, .none), (50044, .none)])))
         (need (sumS.D [DV.nilsl])
          (cond (bif bif bif (bif fitsB (sumZ (rows (DV.sl SK.ro (1 : Nat) es))) then sumZ (rows (DV.sl SK.ro (1 : Nat) es)) else (0 : Int)) == bif fitsB (sumZ (rows (DV.sl SK.ro (1 : Nat) es))) then sumZ (rows (DV.sl SK.ro (1 : Nat) es)) else (0 : Int) then fitsB (sumZ (rows (DV.sl SK.ro (1 : Nat) es))) == fitsB (sumZ (rows (DV.sl SK.ro (1 : Nat) es))) else false then (bif fitsB (sumZ (rows DV.nilsl)) then sumZ (rows DV.nilsl) else (0 : Int)) == bif fitsB (sumZ (rows (DV.sl SK.ro (1 : Nat) es))) then sumZ (rows (DV.sl SK.ro (1 : Nat) es)) else (0 : Int) else false then fitsB (sumZ (rows DV.nilsl)) == fitsB (sumZ (rows (DV.sl SK.ro (1 : Nat) es))) else false)
           (need (trueS.D [])
            (some (.bool true))
           )
           (some (.bool false))
          )
         )
        )
        (cond (decide (es.length % (2 : Nat) = (1 : Nat)))
         (need (LoopOk (LB tab sp7 lsp3 L (n + (8 : Nat)) h30 c3l0) (St.of [(0, (.d (.sl (SK.ro) 1 es))), (1, (.d (.int .i64 t))), (5, (.d (.int .i64 (bif fitsB (sumZ (rows (DV.sl SK.ro (1 : Nat) es))) then sumZ (rows (DV.sl SK.ro (1 : Nat) es)) else (0 : Int))))), (6, (.d (.bool (fitsB (sumZ (rows (DV.sl SK.ro (1 : Nat) es))))))), (7, (.d (.int .i64 (bif fitsB (sumZ (rows (DV.sl SK.ro (1 : Nat) es))) then sumZ (rows (DV.sl SK.ro (1 : Nat) es)) else (0 : Int))))), (8, (.d (.bool (fitsB (sumZ (rows (DV.sl SK.ro (1 : Nat) es))))))), (9, (.d .nilsl)), (10, (.d (.int .i64 ((0 : Int)))))] [(18, .none), (23, .none), (44, .none), (50044, .none)]) ((.ex 0), (St.of [(5, (.d (.int .i64 (bif fitsB (sumZ (rows (DV.sl SK.ro (1 : Nat) es))) then sumZ (rows (DV.sl SK.ro (1 : Nat) es)) else (0 : Int))))), (6, (.d (.bool (fitsB (sumZ (rows (DV.sl SK.ro (1 : Nat) es))))))), (7, (.d (.int .i64 (bif fitsB (sumZ (rows (DV.sl SK.ro (1 : Nat) es))) then sumZ (rows (DV.sl SK.ro (1 : Nat) es)) else (0 : Int))))), (8, (.d (.bool (fitsB (sumZ (rows (DV.sl SK.ro (1 : Nat) es))))))), (9, (.aref 44 1 0 ((mL es (tB t) es.length).length)))] [(18, .none), (23, .none), (44, (.some (.dat 2 1 (mL es (tB t) es.length)))), (50044, .none)])))
          (cond (decide ((0 : Nat) + (mL es (tB t) es.length).length ≤ (mL es (tB t) es.length).length))
           (need (sumS.D [DV.sl SK.ro (1 : Nat) (List.take (mL es (tB t) es.length).length (mL es (tB t) es.length))])
            (cond (bif bif bif (bif fitsB (sumZ (rows (DV.sl SK.ro (1 : Nat) es))) then sumZ (rows (DV.sl SK.ro (1 : Nat) es)) else (0 : Int)) == bif fitsB (sumZ (rows (DV.sl SK.ro (1 : Nat) es))) then sumZ (rows (DV.sl SK.ro (1 : Nat) es)) else (0 : Int) then fitsB (sumZ (rows (DV.sl SK.ro (1 : Nat) es))) == fitsB (sumZ (rows (DV.sl SK.ro (1 : Nat) es))) else false then (bif fitsB (sumZ (rows (DV.sl SK.ro (1 : Nat) (List.take (mL es (tB t) es.length).length (mL es (tB t) es.length))))) then sumZ (rows (DV.sl SK.ro (1 : Nat) (List.take (mL es (tB t) es.length).length (mL es (tB t) es.length)))) else (0 : Int)) == bif fitsB (sumZ (rows (DV.sl SK.ro (1 : Nat) es))) then sumZ (rows (DV.sl SK.ro (1 : Nat) es)) else (0 : Int) else false then fitsB (sumZ (rows (DV.sl SK.ro (1 : Nat) (List.take (mL es (tB t) es.length).length (mL es (tB t) es.length))))) == fitsB (sumZ (rows (DV.sl SK.ro (1 : Nat) es))) else false)
             (need (trueS.D [])
              (some (.bool true))
             )
             (some (.bool false))
            )
           )
           none
          )
         )
         (need (LoopOk (LB tab sp7 lsp3 L (n + (8 : Nat)) h30 c3l0) (St.of [(0, (.d (.sl (SK.ro) 1 es))), (1, (.d (.int .i64 t))), (5, (.d (.int .i64 (bif fitsB (sumZ (rows (DV.sl SK.ro (1 : Nat) es))) then sumZ (rows (DV.sl SK.ro (1 : Nat) es)) else (0 : Int))))), (6, (.d (.bool (fitsB (sumZ (rows (DV.sl SK.ro (1 : Nat) es))))))), (7, (.d (.int .i64 (bif fitsB (sumZ (rows (DV.sl SK.ro (1 : Nat) es))) then sumZ (rows (DV.sl SK.ro (1 : Nat) es)) else (0 : Int))))), (8, (.d (.bool (fitsB (sumZ (rows (DV.sl SK.ro (1 : Nat) es))))))), (9, (.d .nilsl)), (10, (.d (.int .i64 ((0 : Int)))))] [(18, .none), (23, .none), (44, .none), (50044, .none)]) ((.ex 0), (St.of [(5, (.d (.int .i64 (bif fitsB (sumZ (rows (DV.sl SK.ro (1 : Nat) es))) then sumZ (rows (DV.sl SK.ro (1 : Nat) es)) else (0 : Int))))), (6, (.d (.bool (fitsB (sumZ (rows (DV.sl SK.ro (1 : Nat) es))))))), (7, (.d (.int .i64 (bif fitsB (sumZ (rows (DV.sl SK.ro (1 : Nat) es))) then sumZ (rows (DV.sl SK.ro (1 : Nat) es)) else (0 : Int))))), (8, (.d (.bool (fitsB (sumZ (rows (DV.sl SK.ro (1 : Nat) es))))))), (9, (.aref 50044 1 0 ((mL es (tB t) es.length).length)))] [(18, .none), (23, .none), (44, .none), (50044, (.some (.dat 2 1 (mL es (tB t) es.length))))])))
          (cond (decide ((0 : Nat) + (mL es (tB t) es.length).length ≤ (mL es (tB t) es.length).length))
           (need (sumS.D [DV.sl SK.ro (1 : Nat) (List.take (mL es (tB t) es.length).length (mL es (tB t) es.length))])
            (cond (bif bif bif (bif fitsB (sumZ (rows (DV.sl SK.ro (1 : Nat) es))) then sumZ (rows (DV.sl SK.ro (1 : Nat) es)) else (0 : Int)) == bif fitsB (sumZ (rows (DV.sl SK.ro (1 : Nat) es))) then sumZ (rows (DV.sl SK.ro (1 : Nat) es)) else (0 : Int) then fitsB (sumZ (rows (DV.sl SK.ro (1 : Nat) es))) == fitsB (sumZ (rows (DV.sl SK.ro (1 : Nat) es))) else false then (bif fitsB (sumZ (rows (DV.sl SK.ro (1 : Nat) (List.take (mL es (tB t) es.length).length (mL es (tB t) es.length))))) then sumZ (rows (DV.sl SK.ro (1 : Nat) (List.take (mL es (tB t) es.length).length (mL es (tB t) es.length)))) else (0 : Int)) == bif fitsB (sumZ (rows (DV.sl SK.ro (1 : Nat) es))) then sumZ (rows (DV.sl SK.ro (1 : Nat) es)) else (0 : Int) else false then fitsB (sumZ (rows (DV.sl SK.ro (1 : Nat) (List.take (mL es (tB t) es.length).length (mL es (tB t) es.length))))) == fitsB (sumZ (rows (DV.sl SK.ro (1 : Nat) es))) else false)
             (need (trueS.D [])
              (some (.bool true))
             )
             (some (.bool false))
            )
           )
           none
          )
         )
        )
       )
      )
     )
    ) := by kernel_rfl
theorem l3n (L n : Nat) (t : Int) : FK tab sp7 lsp0 20 (n+8) 3 [.nilsl, .int .i64 t] =
    (need (sumS.D [DV.nilsl])
     (need (sumS.D [DV.nilsl])
      (need (sumS.D [DV.nilsl])
       (need (trueS.D [])
        (some (.bool true))
       )
      )
     )
    ) := by kernel_rfl
def idx (es : List (List DV)) (t i : Int) : Int := (IntKind.i64.wrap (i + IntKind.i64.wrap (↑(BitVec.ofInt IntKind.i64.bits t &&& BitVec.ofInt IntKind.i64.bits (63 : Int)).toNat : Int))).tmod (es.length : Int)
def ap (m : List (List DV)) (e : List DV) : List (List DV) := m ++ [[DV.int .i64 (cellA e 0).toI]]
def okAp (m : List (List DV)) : Prop := m.length * 8 ≤ room ∧ m.length ≤ room
def okA (m : List (List DV)) (e : List DV) : Bool := decide ((2 : Nat) = 2 ∧ (1 : Nat) = 1 ∧ (1 : Nat) = 1 ∧ (0 : Nat) = 0 ∧ m.length = m.length ∧ (ap m e).length * 8 ≤ room ∧ (ap m e).length ≤ room)
theorem stepA (L n : Nat) (es m : List (List DV)) (t : Int) (a b c d : DV) (i : Nat) (k : Kont) : LB tab sp7 lsp3 L (n+8) h30 c3l0 (S30 es m t a b c d 44 i) k =
    cond (decide ((i : Int) < (es.length : Int))) (cond (decide ((es.length : Int) = 0)) none (cond (decide ((0 : Int) ≤ idx es t i)) (lookK (es[(idx es t i).toNat]?) fun e => cond (okRow z1 e)
      (cond (okA m e) (k .nrm (S30 es (ap m e) t a b c d 50044 (IntKind.i64.wrap ((i : Int) + 1)))) none) none) none)) (k (.ex 0) (E44 m a b c d)) := by kernel_rfl
theorem stepB (L n : Nat) (es m : List (List DV)) (t : Int) (a b c d : DV) (i : Nat) (k : Kont) : LB tab sp7 lsp3 L (n+8) h30 c3l0 (S30 es m t a b c d 50044 i) k =
    cond (decide ((i : Int) < (es.length : Int))) (cond (decide ((es.length : Int) = 0)) none (cond (decide ((0 : Int) ≤ idx es t i)) (lookK (es[(idx es t i).toNat]?) fun e => cond (okRow z1 e)
      (cond (okA m e) (k .nrm (S30 es (ap m e) t a b c d 44 (IntKind.i64.wrap ((i : Int) + 1)))) none) none) none)) (k (.ex 0) (E500 m a b c d)) := by kernel_rfl
theorem stepN (L n : Nat) (es : List (List DV)) (t : Int) (a b c d : DV) (k : Kont) : LB tab sp7 lsp3 L (n+8) h30 c3l0 (S30n es t a b c d) k =
    cond (decide ((0 : Int) < (es.length : Int))) (cond (decide ((es.length : Int) = 0)) none (cond (decide ((0 : Int) ≤ idx es t 0)) (lookK (es[(idx es t 0).toNat]?) fun e => cond (okRow z1 e)
      (k .nrm (S30 es [[DV.int .i64 (cellA e 0).toI]] t a b c d 44 (IntKind.i64.wrap 1))) none) none)) (k (.ex 0) (E30n a b c d)) := by kernel_rfl
theorem and63 (t : Int) : (((BitVec.ofInt IntKind.i64.bits t &&& BitVec.ofInt IntKind.i64.bits (63 : Int)).toNat : Nat) : Int) = (tB t : Int) := by
  have h : (BitVec.ofInt 64 t &&& BitVec.ofInt 64 (63 : Int)).toNat = tB t := by
    rw [BitVec.toNat_and, BitVec.toNat_ofInt, BitVec.toNat_ofInt]
    have e2 : ((63 : Int) % ((2 ^ 64 : Nat) : Int)).toNat = 2 ^ 6 - 1 := by decide
    rw [e2, Nat.and_two_pow_sub_one_eq_mod]
    unfold tB
    omega
  exact congrArg Int.ofNat h
theorem tB_lt (t : Int) : tB t < 64 := by unfold tB; omega
theorem idx_eq {es : List (List DV)} {t : Int} {i : Nat} (hi : i ≤ 60) : idx es t i = (((i + tB t) % es.length : Nat) : Int) := by
  unfold idx
  have := tB_lt t
  rw [and63, show IntKind.i64.wrap (tB t : Int) = (tB t : Int) from wrap_fits (by omega) (by omega), show IntKind.i64.wrap ((i : Int) + (tB t : Int)) = ((i + tB t : Nat) : Int) by rw [wrap_fits] <;> omega]
  rfl
theorem mL_succ (es : List (List DV)) (T i : Nat) : mL es T (i + 1) = mL es T i ++ [[DV.int .i64 (fC es T i)]] := by simp [mL, List.range_succ]
theorem mL_length (es : List (List DV)) (T i : Nat) : (mL es T i).length = i := by simp [mL]
theorem loop30 (L n : Nat) (es : List (List DV)) (t : Int) (a b c d : DV) (hz : ∀ e ∈ es, okRow z1 e = true) (hl : es.length ≤ 60) : ∀ r, (end30 es t a b c d).val = some r → LoopOk (LB tab sp7 lsp3 L (n+8) h30 c3l0) (S30n es t a b c d) r := by
  intro r hr
  have key := loop_rounds (f := LB tab sp7 lsp3 L (n+8) h30 c3l0) (fun i => match i with | 0 => S30n es t a b c d | i + 1 => S30 es (mL es (tB t) (i + 1)) t a b c d (site (i + 1)) ((i + 1 : Nat) : Int)) (fun _ => r) es.length
    (fun i hi => by
      refine .inl ⟨fun k => ?_, rfl⟩
      have hn : 0 < es.length := by omega
      have hj : (i + tB t) % es.length < es.length := Nat.mod_lt _ hn
      have he : es[(i + tB t) % es.length]? = some es[(i + tB t) % es.length] := List.getElem?_eq_getElem hj
      have hzi := hz es[(i + tB t) % es.length] (List.getElem_mem hj)
      have hw : IntKind.i64.wrap ((i : Int) + 1) = ((i + 1 : Nat) : Int) := by rw [wrap_fits] <;> omega
      have h0 : decide ((es.length : Int) = 0) = false := decide_eq_false (by omega)
      have hf : (cellA es[(i + tB t) % es.length] 0).toI = fC es (tB t) i := by
        simp only [fC, gC, cel, List.getD_eq_getElem?_getD, he, Option.getD_some]
      have hx := idx_eq (es := es) (t := t) (i := i) (by omega)
      have hge : decide ((0 : Int) ≤ idx es t i) = true := by rw [hx]; exact decide_eq_true (by omega)
      cases i with
      | zero =>
        simp only [stepN]
        have hx' : idx es t 0 = (((0 + tB t) % es.length : Nat) : Int) := hx
        have hge' : decide ((0 : Int) ≤ idx es t 0) = true := hge
        rw [decide_eq_true (show (0 : Int) < (es.length : Int) by omega), h0, hge', hx']
        simp only [cond_true, cond_false, Int.toNat_natCast, he, lookK_some, hzi, hf]
        rw [show IntKind.i64.wrap 1 = ((0 + 1 : Nat) : Int) from by rw [wrap_fits] <;> omega]
        rfl
      | succ i =>
        have hlt : decide (((i + 1 : Nat) : Int) < (es.length : Int)) = true := decide_eq_true (by omega)
        have hroom : okA (mL es (tB t) (i + 1)) es[(i + 1 + tB t) % es.length] = true := by
          refine decide_eq_true ⟨rfl, rfl, rfl, rfl, rfl, ?_, ?_⟩ <;> simp only [ap, List.length_append, mL_length, List.length_singleton, room] <;> omega
        have hap : ap (mL es (tB t) (i + 1)) es[(i + 1 + tB t) % es.length] = mL es (tB t) (i + 1 + 1) := by
          rw [mL_succ es (tB t) (i + 1), ap, hf]
        simp only
        by_cases hp : (i + 1) % 2 = 1
        · have s1 : site (i + 1) = 44 := by unfold site; rw [decide_eq_true hp]; rfl
          have s2 : site (i + 1 + 1) = 50044 := by unfold site; rw [decide_eq_false (by omega)]; rfl
          rw [s1, s2, stepA, hlt, h0, hge, hx]
          simp only [cond_true, cond_false, Int.toNat_natCast, he, lookK_some, hzi, hroom, hap, hw]
        · have s1 : site (i + 1) = 50044 := by unfold site; rw [decide_eq_false hp]; rfl
          have s2 : site (i + 1 + 1) = 44 := by unfold site; rw [decide_eq_true (by omega)]; rfl
          rw [s1, s2, stepB, hlt, h0, hge, hx]
          simp only [cond_true, cond_false, Int.toNat_natCast, he, lookK_some, hzi, hroom, hap, hw])
    (by
      cases hn : es.length with
      | zero =>
        simp only [end30, hn, LR.val] at hr
        cases hr
        refine ⟨by simp, fun k => ?_⟩
        simp only [stepN, hn]
        rfl
      | succ N =>
        have h0 : decide (N + 1 = 0) = false := decide_eq_false (by omega)
        simp only [end30, hn, h0, LR.val, cond_false] at hr
        have hlt : decide (((N + 1 : Nat) : Int) < (es.length : Int)) = false := decide_eq_false (by omega)
        by_cases hp : (N + 1) % 2 = 1
        · rw [decide_eq_true hp] at hr
          cases hr
          refine ⟨by simp, fun k => ?_⟩
          have s1 : site (N + 1) = 44 := by unfold site; rw [decide_eq_true hp]; rfl
          simp only
          rw [s1, stepA, hlt]
          rfl
        · rw [decide_eq_false hp] at hr
          cases hr
          refine ⟨by simp, fun k => ?_⟩
          have s1 : site (N + 1) = 50044 := by unfold site; rw [decide_eq_false hp]; rfl
          simp only
          rw [s1, stepB, hlt]
          rfl)
  exact key 0 (Nat.zero_le _)
/-! the sum does not hang on the turn -/
def sumR (g : Nat → Int) : Nat → Int
  | 0 => 0
  | n + 1 => sumR g n + g n
theorem sumR_congr {f g : Nat → Int} : ∀ n, (∀ j, j < n → f j = g j) → sumR f n = sumR g n
  | 0, _ => rfl
  | n + 1, h => by simp only [sumR]; rw [sumR_congr n fun j hj => h j (by omega), h n (by omega)]
theorem sumR_shift (k : Nat → Int) : ∀ n, sumR (fun j => k (j + 1)) n + k 0 = sumR k n + k n
  | 0 => by simp [sumR]
  | n + 1 => by
    have := sumR_shift k n
    simp only [sumR]
    omega
theorem sumR_turn (g : Nat → Int) (n : Nat) : ∀ T, sumR (fun j => g ((j + T) % n)) n = sumR g n
  | 0 => sumR_congr n fun j hj => by simp only [Nat.add_zero, Nat.mod_eq_of_lt hj]
  | T + 1 => by
    have h1 : sumR (fun j => g ((j + 1 + T) % n)) n + g ((0 + T) % n) = sumR (fun j => g ((j + T) % n)) n + g ((n + T) % n) := sumR_shift (fun j => g ((j + T) % n)) n
    have h2 := sumR_turn g n T
    have h3 : g ((n + T) % n) = g ((0 + T) % n) := by rw [Nat.add_mod_left, Nat.zero_add]
    have h4 : (fun j => g ((j + (T + 1)) % n)) = fun j => g ((j + 1 + T) % n) := by
      funext j
      rw [show j + (T + 1) = j + 1 + T by omega]
    rw [h4]
    omega
theorem sum_mL (es : List (List DV)) (T : Nat) : ∀ i, sumZ (mL es T i) = sumR (fC es T) i
  | 0 => rfl
  | i + 1 => by
    rw [mL_succ, sumZ_append, sum_mL es T i]
    simp [sumR, sumZ, cel, cellA]
theorem sum_es (es : List (List DV)) : ∀ i, i ≤ es.length → sumZ (es.take i) = sumR (gC es) i
  | 0, _ => rfl
  | i + 1, h => by
    rw [sumZ_take (by omega), sum_es es i (by omega)]
    simp only [sumR, gC, List.getD_eq_getElem?_getD, List.getElem?_eq_getElem (show i < es.length by omega), Option.getD_some]
theorem sum_turned (es : List (List DV)) (T : Nat) : sumZ (mL es T es.length) = sumZ es := by
  rw [sum_mL]
  have h := sum_es es es.length (Nat.le_refl _)
  rw [List.take_length] at h
  rw [h]
  exact sumR_turn (gC es) es.length T
theorem rowM (es : List (List DV)) (t : Int) (h64 : ∀ e ∈ es, is64 (cel e)) (hl : es.length ≤ 60) : sumS.D [.sl .ro 1 (mL es (tB t) es.length)] := ⟨_, rfl, .inr ⟨.ro, _, rfl, fun e he => by
  simp only [mL, List.mem_map] at he
  obtain ⟨j, _, rfl⟩ := he
  rfl, by rw [mL_length]; omega⟩, fun e he => by
  simp only [rows, mL, List.mem_map, List.mem_range] at he
  obtain ⟨j, hj, rfl⟩ := he
  show is64 (fC es (tB t) j)
  have hlt : (j + tB t) % es.length < es.length := Nat.mod_lt _ (by omega)
  unfold fC gC
  rw [List.getD_eq_getElem?_getD, List.getElem?_eq_getElem hlt, Option.getD_some]
  exact h64 _ (List.getElem_mem hlt)⟩
theorem runsS (xs : List DV) (h : KVs kinds xs) : Ent Try.prog 3 xs (.bool true) := by
  simp only [kinds, KVs, KV] at h
  obtain ⟨x, xs', rfl, hx, y, ys', rfl, hy, rfl⟩ := h
  simp only [KC, List.cons.injEq, and_true] at hx hy
  obtain ⟨t, rfl, _⟩ := hy
  have hN : sumS.D [.nilsl] := ⟨_, rfl, .inl rfl, fun e he => by simp [rows] at he⟩
  rcases hx with rfl | ⟨es, rfl, hes⟩
  · refine of_FK tab_ok sp7_ok (L := 20) (n := 0 + 8) ((l3n 0 0 t).trans ?_)
    exact (need_pos hN).trans ((need_pos hN).trans ((need_pos hN).trans (need_pos rfl)))
  · refine of_FK tab_ok sp7_ok (L := 100) (n := 0 + 8) ((l3 100 0 es t).trans ?_)
    refine cond_of (fun _ => rfl) (fun hl => ?_)
    have hl' : es.length ≤ 60 := by simp at hl; omega
    have hz : ∀ e ∈ es, okRow z1 e = true := fun e he => by
      obtain ⟨a, rfl, _⟩ := hes e he
      rfl
    have h64 : ∀ e ∈ es, is64 (cel e) := fun e he => by
      obtain ⟨a, rfl, hw⟩ := hes e he
      exact wf_i64 hw
    have hD : sumS.D [.sl .ro 1 es] := ⟨_, rfl, .inr ⟨.ro, es, rfl, hz, by omega⟩, h64⟩
    refine (need_pos hD).trans ((need_pos hD).trans ?_)
    have hm : sumZ (rows (DV.sl .ro 1 (List.take (mL es (tB t) es.length).length (mL es (tB t) es.length)))) = sumZ (rows (DV.sl .ro 1 es)) := by
      rw [List.take_length]
      exact sum_turned es (tB t)
    have hle : decide ((0 : Nat) + (mL es (tB t) es.length).length ≤ (mL es (tB t) es.length).length) = true := decide_eq_true (by omega)
    have hDm := rowM es t h64 hl'
    rw [← List.take_length (l := mL es (tB t) es.length)] at hDm
    generalize hA : (DV.int .i64 (bif fitsB (sumZ (rows (DV.sl .ro 1 es))) then sumZ (rows (DV.sl .ro 1 es)) else 0)) = A
    generalize hB : (DV.bool (fitsB (sumZ (rows (DV.sl .ro 1 es))))) = B
    have hL := loop30 100 0 es t A B A B hz hl'
    refine cond_of (fun hc => ?_) (fun hc => cond_of (fun hc2 => ?_) (fun hc2 => ?_))
    · refine (need_pos (hL (.ex 0, E30n A B A B) (by simp only [end30, hc, LR.val, cond_true]))).trans ((need_pos hN).trans ?_)
      have he : es = [] := List.eq_nil_of_length_eq_zero (of_decide_eq_true hc)
      subst he
      exact need_pos rfl
    · refine (need_pos (hL (.ex 0, E44 (mL es (tB t) es.length) A B A B) (by simp only [end30, hc, hc2, LR.val, cond_true, cond_false]))).trans ?_
      rw [hle]
      refine (need_pos hDm).trans ?_
      rw [hm]
      simp only [beq_self_eq_true, cond_true]
      exact need_pos rfl
    · refine (need_pos (hL (.ex 0, E500 (mL es (tB t) es.length) A B A B) (by simp only [end30, hc, hc2, LR.val, cond_false]))).trans ?_
      rw [hle]
      refine (need_pos hDm).trans ?_
      rw [hm]
      simp only [beq_self_eq_true, cond_true]
      exact need_pos rfl

set_option maxRecDepth 100000 in
theorem lifted (os : Os) (started : os.Started) (H : Type) (enc : TypeId × Value → H) :
    ReturnsInHanded {} Try.checked os 3 .any (Rows.cashSumsSpec.pre6 enc Try.prog Try.f3 Rows.cashSumsRow.domain false) (Rows.cashSumsSpec.post enc Try.prog Try.f3 false true false false) := by
  refine returnsInHanded_of_change (C := Try.checked) own started (by kernel_rfl) Try.func3
    (ChangeSpec.witness6 (enc := enc) (C := Try.checked) false ⟨#[], #[.slice none 0 0, .int .i64 0], []⟩ 8 (by kernel_rfl) (by kernel_rfl) (by kernel_rfl) (by kernel_rfl)) ?_
  intro W base args ds gs before hval0 hW hcnd _
  exact law_contract (H := H) (enc := enc) (s := Rows.cashSumsSpec) (fn := Try.f3) (by kernel_rfl) rfl (n := 8) (Ks := kinds) (by kernel_rfl) (by kernel_rfl) (rt := 4) (by kernel_rfl) (by kernel_rfl)
    (fun ds h => by
      have h' : ds.length = 2 := h
      obtain ⟨d0, d1, rfl⟩ := len2 h'
      exact ⟨rfl, rfl, rfl⟩) runsS W base args ds gs before hval0 hW

theorem over : Rows.cashSumsRow.holds Try.pinned (OpenSpec.ofChange Rows.cashSumsSpec) :=
  OpenClaim.holds_of_wide 3 Try.f3 rfl rfl rfl rfl rfl rfl rfl ⟨rfl, rfl, rfl, rfl, rfl⟩ rfl rfl rfl rfl rfl (by kernel_rfl) Try.func3 (by kernel_rfl)
    (of_decide_eq_true (by kernel_rfl)) (by unfold Func.isWrapper; first | (rw [if_pos (by decide +kernel)]; kernel_rfl) | (rw [if_neg (by decide +kernel)]; exact ⟨rfl, rfl⟩))
    (fun os started H enc _ => lifted os started H enc)

/-- ████ THE STATEMENT ████ -/
theorem proved : Rows.CashSumsSaid :=
  over
#print axioms proved
end Go.Proofs.Ytianifckopijjaa.cashSums
