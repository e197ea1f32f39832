/- What is known of a call on more general data holds on less general; a result may be told less exactly. No condition. -/
import Derived.Test.YtjejjokdbbedlaaVmR
import Derived.Test.YtjejjokdbbedlaaVmN
namespace Go.Proofs.Ytjejjokdbbedlaa.Vm
open Go Go.RowKit
set_option linter.unusedVariables false
set_option linter.unusedSimpArgs false
set_option linter.unusedSectionVars false

/-- whatever lies as the one tells lies as the other tells -/
def DLe (x y : DV) : Prop := ∀ (w : World) (S : Nat → Nat → Prop) (v : Value), RdD w S x v → RdD w S y v
def LLe (xs ys : List DV) : Prop := ∀ (w : World) (S : Nat → Nat → Prop) (vs : List Value), RdL w S xs vs → RdL w S ys vs
theorem DLe.refl (x : DV) : DLe x x := fun _ _ _ h => h
theorem DLe.trans {x y z : DV} (h1 : DLe x y) (h2 : DLe y z) : DLe x z := fun w S v h => h2 w S v (h1 w S v h)
theorem LLe.refl (x : List DV) : LLe x x := fun _ _ _ h => h
theorem LLe.nil : LLe [] [] := fun _ _ _ h => h
theorem LLe.cons {x y : DV} {xs ys : List DV} (h : DLe x y) (hl : LLe xs ys) : LLe (x :: xs) (y :: ys) := fun w S vs hv => by
  simp only [RdL] at hv ⊢
  obtain ⟨u, us, rfl, h1, h2⟩ := hv
  exact ⟨u, us, rfl, h w S u h1, hl w S us h2⟩
theorem DLe.nil (k : Bool) (sz : Nat) : DLe .nilsl (.sla k sz []) := fun _ _ _ h => h.of_nil
theorem DLe.sl (q : SK) (sz : Nat) (es : List (List DV)) : DLe (.sl q sz es) (.sla false sz es) := fun _ _ _ h => h.of_sl fun h => by cases h
theorem DLe.ro (q : SK) (sz : Nat) (es : List (List DV)) : DLe (.sl q sz es) (.sl .ro sz es) := fun w S v h => by
  simp only [RdD] at h ⊢
  obtain ⟨a, b, o, cap, h1, h0, h2, h3, h4⟩ := h
  exact ⟨a, b, o, cap, h1, h0, h2, (fun h => by cases h), h4⟩
theorem DLe.sla (k : Bool) (sz : Nat) (es : List (List DV)) : DLe (.sla k sz es) (.sla false sz es) := fun w S v h => by
  rcases h.sla with ⟨rfl, rfl⟩ | h
  · simp only [RdD]
    exact .inl (by simp)
  · exact h.of_sl fun h => by cases h
theorem DLe.agg {xs ys : List DV} (h : LLe xs ys) : DLe (.agg xs) (.agg ys) := fun w S v hv => by
  simp only [RdD] at hv ⊢
  obtain ⟨vs, rfl, hl⟩ := hv
  exact ⟨vs, rfl, h w S vs hl⟩
theorem DLe.tuple {xs ys : List DV} (h : LLe xs ys) : DLe (.tuple xs) (.tuple ys) := fun w S v hv => by
  simp only [RdD] at hv ⊢
  obtain ⟨vs, rfl, hl⟩ := hv
  exact ⟨vs, rfl, h w S vs hl⟩
theorem RdC.le {w : World} {S : Nat → Nat → Prop} : ∀ {xs ys : List DV} {b o : Nat}, ys.length = xs.length → (∀ (i : Nat) (x y : DV), xs[i]? = some x → ys[i]? = some y → DLe x y) → RdC w S xs b o → RdC w S ys b o := by
  intro xs ys b o hlen hle h
  refine RdC.mk _ _ _ fun i y hy => ?_
  have hi : i < xs.length := by
    have := (List.getElem?_eq_some_iff.1 hy).1
    omega
  obtain ⟨hs, u, hu, hr⟩ := RdC.at _ _ _ h i _ (List.getElem?_eq_getElem hi)
  exact ⟨hs, u, hu, hle i _ y (List.getElem?_eq_getElem hi) hy w S u hr⟩
/-- rows of slices, told more generally -/
theorem DLe.rows {k : Bool} {sz : Nat} {es fs : List (List DV)} (hl : fs.length = es.length) (h : ∀ (i : Nat) (e f : List DV), es[i]? = some e → fs[i]? = some f → f.length = e.length ∧ ∀ (j : Nat) (x y : DV), e[j]? = some x → f[j]? = some y → DLe x y) : DLe (.sla k sz es) (.sla k sz fs) := fun w S v hv => by
  simp only [RdD] at hv ⊢
  rcases hv with ⟨hv, rfl⟩ | ⟨a, b, o, cap, h1, h0, h2, h3, h4⟩
  · exact .inl ⟨hv, List.eq_nil_of_length_eq_zero hl⟩
  · refine .inr ⟨a, b, o, cap, by rw [hl]; exact h1, by rw [hl]; exact h0, by rw [hl]; exact h2, by rw [hl]; exact h3, RdE.mk _ _ _ _ fun i f hf => ?_⟩
    have hi : i < es.length := by
      have := (List.getElem?_eq_some_iff.1 hf).1
      omega
    obtain ⟨g1, g2⟩ := RdE.at _ _ _ _ h4 i _ (List.getElem?_eq_getElem hi)
    obtain ⟨k1, k2⟩ := h i _ f (List.getElem?_eq_getElem hi) hf
    exact ⟨k1.trans g1, RdC.le k1 k2 g2⟩

def noMv : List DV → Bool
  | .mv _ _ _ :: _ => false
  | _ => true
theorem args_noMv {w : World} {S0 : Nat → Nat → Prop} {ds : List DV} {vs : List Value} {o : Base} (hm : noMv ds = true) : ArgsAt w S0 ds vs o ↔ RdL w S0 ds vs ∧ o = Base.all w := by
  unfold ArgsAt
  split
  · simp [noMv] at hm
  · exact Iff.rfl
theorem EntX.args {P : Program} {f : FuncId} {ds ds' : List DV} {r : DV} (hle : LLe ds ds') (h1 : noMv ds = true) (h2 : noMv ds' = true) (h : EntX P f ds' r) : EntX P f ds r := fun w vs S0 o ha hS =>
  h w vs S0 o ((args_noMv h2).2 ⟨hle w S0 vs ((args_noMv h1).1 ha).1, ((args_noMv h1).1 ha).2⟩) hS
theorem EntX.mvargs {P : Program} {f : FuncId} {el sz : Nat} {es : List (List DV)} {ds ds' : List DV} {r : DV} (hle : LLe ds ds') (h : EntX P f (.mv el sz es :: ds') r) : EntX P f (.mv el sz es :: ds) r := fun w vs S0 o ha hS => by
  refine h w vs S0 o ?_ hS
  simp only [ArgsAt] at ha ⊢
  obtain ⟨v, vs', g, rfl, h1, h2, h3⟩ := ha
  exact ⟨v, vs', g, rfl, h1, hle w S0 vs' h2, h3⟩
theorem EntX.sla {P : Program} {f : FuncId} {k : Bool} {sz : Nat} {es : List (List DV)} {rest : List DV} {r : DV} (h1 : es = [] → EntX P f (.nilsl :: rest) r) (h2 : EntX P f (.sl .ro sz es :: rest) r) : EntX P f (.sla k sz es :: rest) r := fun w vs S0 o ha hS => by
  have hr := (args_noMv (ds := .sla k sz es :: rest) rfl).1 ha
  obtain ⟨hl, ho⟩ := hr
  simp only [RdL] at hl
  obtain ⟨u, us, rfl, h3, h4⟩ := hl
  rcases h3.sla with ⟨h5, h6⟩ | h5
  · exact h1 h6 w _ S0 o ((args_noMv rfl).2 ⟨by simp only [RdL, RdD]; exact ⟨u, us, rfl, h5, h4⟩, ho⟩) hS
  · exact h2 w _ S0 o ((args_noMv rfl).2 ⟨by simp only [RdL]; exact ⟨u, us, rfl, DLe.ro _ _ _ w S0 u h5, h4⟩, ho⟩) hS
theorem Ent.args {P : Program} {f : FuncId} {ds ds' : List DV} {r : DV} (hle : LLe ds ds') (h1 : noMv ds = true) (h2 : noMv ds' = true) (h : Ent P f ds' r) : Ent P f ds r := ⟨h.1, fun w vs S0 o ha hS =>
  h.2 w vs S0 o ((args_noMv h2).2 ⟨hle w S0 vs ((args_noMv h1).1 ha).1, ((args_noMv h1).1 ha).2⟩) hS⟩
/-- what a call gave, told as data that is never written again -/
theorem Post.read {o : Base} {S0 S' : Nat → Nat → Prop} {r r' : DV} {v : Value} {w' : World} (h : Post o S0 r v w' S') (hle : DLe (roTop r) (roTop r')) (hr : roTop r' = r') : ∃ S'', Post o S0 r' v w' S'' := by
  refine ⟨fun b p => S' b p ∨ (¬ o.old b ∧ b < w'.heap.size), h.below, fun b p hb => .inl (h.up b p hb), fun b p hb => ?_, fun b p hb => ?_, ?_⟩
  · rcases hb with hb | hb
    · exact h.new b p hb
    · exact .inr hb.1
  · rcases hb with hb | hb
    · exact h.live b p hb
    · exact hb.2
  · have := Res.read (S' := fun b p => S' b p ∨ (¬ o.old b ∧ b < w'.heap.size)) (fun b p h => .inl h) (fun b p h1 h2 => .inr ⟨h1, h2⟩) h.res
    have h2 := hle _ _ _ this
    rw [hr] at h2
    have h3 := Res_roTop (B := o.old) h2
    rwa [hr] at h3
theorem EntX.res {P : Program} {f : FuncId} {ds : List DV} {r r' : DV} (h : EntX P f ds r) (hle : DLe (roTop r) (roTop r')) (hr : roTop r' = r') : EntX P f ds r' := fun w vs S0 o ha hS =>
  (h w vs S0 o ha hS).mono fun v w' ⟨S', hp⟩ => hp.read hle hr

/-- the elements of a slice -/
def rowsA : DV → List (List DV)
  | .sl _ _ es => es
  | .sla _ _ es => es
  | _ => []
theorem rowsA_sla (k : Bool) (sz : Nat) (es : List (List DV)) : rowsA (.sla k sz es) = es := rfl
theorem rowsA_sl (q : SK) (sz : Nat) (es : List (List DV)) : rowsA (.sl q sz es) = es := rfl
theorem rowsA_nil : rowsA .nilsl = [] := rfl
def gen (sz : Nat) (x : DV) : DV := .sla false sz (rowsA x)
/-- a slice, or none, of rows of a size -/
def Sl (sz : Nat) (x : DV) : Prop := x = .nilsl ∨ (∃ q es, x = .sl q sz es) ∨ ∃ k es, x = .sla k sz es
theorem Sl.le {sz : Nat} {x : DV} (h : Sl sz x) : DLe x (gen sz x) := by
  rcases h with rfl | ⟨q, es, rfl⟩ | ⟨k, es, rfl⟩
  · exact DLe.nil false sz
  · exact DLe.sl q sz es
  · exact DLe.sla k sz es
theorem Sl.nil (sz : Nat) : Sl sz .nilsl := .inl rfl
theorem Sl.sl (sz : Nat) (q : SK) (es : List (List DV)) : Sl sz (.sl q sz es) := .inr (.inl ⟨q, es, rfl⟩)
theorem Sl.sla (sz : Nat) (k : Bool) (es : List (List DV)) : Sl sz (.sla k sz es) := .inr (.inr ⟨k, es, rfl⟩)
theorem Sl.noMv {sz : Nat} {x : DV} (h : Sl sz x) (l : List DV) : noMv (x :: l) = true := by
  rcases h with rfl | ⟨q, es, rfl⟩ | ⟨k, es, rfl⟩ <;> rfl
theorem EntX.gen1 {P : Program} {f : FuncId} {sz : Nat} {x : DV} {rest : List DV} {r : DV} (hx : Sl sz x) (h : EntX P f (.sla false sz (rowsA x) :: rest) r) : EntX P f (x :: rest) r :=
  h.args (LLe.cons hx.le (LLe.refl _)) (hx.noMv _) rfl
theorem EntX.gen2 {P : Program} {f : FuncId} {sz sz2 : Nat} {x y : DV} {rest : List DV} {r : DV} (hx : Sl sz x) (hy : Sl sz2 y) (h : EntX P f (.sla false sz (rowsA x) :: .sla false sz2 (rowsA y) :: rest) r) : EntX P f (x :: y :: rest) r :=
  h.args (LLe.cons hx.le (LLe.cons hy.le (LLe.refl _))) (hx.noMv _) rfl
/-- a function's spec, from runs on general data -/
theorem spec_run {P : Program} {tab : FuncId → Option AFn} {sp : FuncId → Option FSpec} {lsp : Nat → Option LSpec} (htab : ∀ f fn', tab f = some fn' → ∃ fn, P.funcs[f]? = some fn ∧ cFn P fn = some fn'.erase) (hsp : ∀ f s, sp f = some s → s.ok P f) {f : FuncId} {ds : List DV} {r : DV}
    (L n : Nat) (h : FK tab sp lsp L n f ds = some r) : EntX P f ds r := (of_FK htab hsp h).x

theorem minus_zero (n : Int) : n - 0 = n := Int.sub_zero n
theorem nat_le_cast (a b : Nat) : ((a : Int) ≤ (b : Int)) = (a ≤ b) := propext (by omega)
theorem nat_nonneg (a : Nat) : ((0 : Int) ≤ (a : Int)) = True := propext ⟨fun _ => trivial, fun _ => by omega⟩
/-! ### loops -/
/-- a loop whose rounds come to one end, by a measure -/
theorem loop_meas {f : St → Kont → Option DV} {σ : Type} (S : σ → St) (μ : σ → Nat) (inv : σ → Prop) (r : σ → Ex × St)
    (h : ∀ s, inv s → (∃ s', inv s' ∧ μ s' < μ s ∧ r s' = r s ∧ ∀ k, f (S s) k = k .nrm (S s')) ∨ ((r s).1 ≠ .nrm ∧ ∀ k, f (S s) k = k (r s).1 (r s).2)) : ∀ s, inv s → LoopOk f (S s) (r s) := by
  have key : ∀ m s, inv s → μ s ≤ m → LoopOk f (S s) (r s) := by
    intro m
    induction m with
    | zero =>
      intro s hs hm
      rcases h s hs with ⟨s', _, h2, _⟩ | ⟨h1, h2⟩
      · omega
      · exact loop_one h1 h2
    | succ m ih =>
      intro s hs hm
      rcases h s hs with ⟨s', h1, h2, h3, h4⟩ | ⟨h1, h2⟩
      · obtain ⟨n, hn⟩ := ih s' h1 (by omega)
        refine ⟨n + 1, fun k => ?_⟩
        rw [iterK_succ, h4, ← h3]
        exact hn k
      · exact loop_one h1 h2
  exact fun s hs => key (μ s) s hs (Nat.le_refl _)
/-- a loop over a list, round by round: what is left of the list tells the end -/
theorem loop_list {f : St → Kont → Option DV} {α : Type} (S : Nat → St) (es : List α) (R : Nat → Ex × St)
    (h : ∀ i (hi : i < es.length), ((∀ k, f (S i) k = k .nrm (S (i + 1))) ∧ R i = R (i + 1)) ∨ ((R i).1 ≠ .nrm ∧ ∀ k, f (S i) k = k (R i).1 (R i).2))
    (hend : (R es.length).1 ≠ .nrm ∧ ∀ k, f (S es.length) k = k (R es.length).1 (R es.length).2) : LoopOk f (S 0) (R 0) :=
  loop_rounds S R es.length h hend 0 (Nat.zero_le _)
theorem look_at {α : Type} {l : List α} {i : Nat} (hi : i < l.length) (k : α → Option DV) : lookK l[((i : Nat) : Int).toNat]? k = k l[i] := by
  rw [Int.toNat_natCast, List.getElem?_eq_getElem hi]
  rfl
theorem look_nat {α : Type} {l : List α} {i : Nat} (hi : i < l.length) (k : α → Option DV) : lookK l[i]? k = k l[i] := by
  rw [List.getElem?_eq_getElem hi]
  rfl
theorem wrap_succ {i : Nat} (h : i < 1000000000000) : IntKind.i64.wrap ((i : Int) + 1) = ((i + 1 : Nat) : Int) := by rw [wrap_fits] <;> omega
theorem wrap_pred {i : Nat} (h0 : 0 < i) (h : i < 1000000000000) : IntKind.i64.wrap ((i : Int) - 1) = ((i - 1 : Nat) : Int) := by rw [wrap_fits] <;> omega
theorem lt_dec {i n : Nat} (h : i < n) : decide ((i : Int) < (n : Int)) = true := decide_eq_true (by omega)
theorem lt_dec_self (n : Nat) : decide ((n : Int) < (n : Int)) = false := decide_eq_false (by omega)
theorem bne_len {a b : Nat} : (((a : Nat) : Int) != ((b : Nat) : Int)) = !decide (a = b) := by
  by_cases h : a = b
  · subst h; simp
  · have h1 : ((a : Nat) : Int) ≠ ((b : Nat) : Int) := by omega
    rw [decide_eq_false h]
    simpa using h1
end Go.Proofs.Ytjejjokdbbedlaa.Vm
