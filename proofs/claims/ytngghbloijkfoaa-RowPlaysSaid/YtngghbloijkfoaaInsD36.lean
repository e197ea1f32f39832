/- slices.Insert of one element into a slice that is handed over: its contract. No condition. -/
import Derived.Test.YtngghbloijkfoaaInsC
import Derived.Test.YtngghbloijkfoaaInsA36
import Derived.Test.YtngghbloijkfoaaInsB36
namespace Go.Proofs.Ytngghbloijkfoaa
open Go Go.Proofs Go.RowKit Go.Lib Vm
set_option linter.unusedVariables false
set_option linter.unusedSimpArgs false
theorem ins36_lt {es : List (List DV)} {i : Nat} {r : List DV} {x : DV} (hi : i < es.length) (hr1 : r.length = 1) (hr2 : r.all DV.one = true) (hx : Sl 1 x) (hxr : rowsA x = [r]) (hlen : es.length ≤ 1000000) :
    EntX Try.prog 36 [.mv 2 1 es, .int .i64 i, x] (.sl (.own 2) 1 (es.take i ++ (r :: es.drop i))) := by
  intro w vs S0 o ha hS
  refine .inl ⟨⟨Try.f36, by kernel_rfl, by kernel_rfl, by kernel_rfl⟩, ?_⟩
  simp only [ArgsAt] at ha
  obtain ⟨v0, vs', g, rfl, ⟨c, rfl, hes, hro⟩, hl, rfl⟩ := ha
  simp only [RdL] at hl
  obtain ⟨vi, vs2, rfl, hvi, vx, vs3, rfl, hvx, rfl⟩ := hl
  simp only [RdD] at hvi
  subst hvi
  have hvx := hx.le _ _ _ hvx
  unfold gen at hvx
  rw [hxr] at hvx
  rcases hvx.sla with ⟨_, h⟩ | hvx
  · cases h
  simp only [RdD] at hvx
  obtain ⟨a0, vb, vo, vc, rfl, ha0, hvc, _, hre⟩ := hvx
  have := ha0 (by simp)
  subst this
  simp only [RdE, List.length_cons, List.length_nil] at hre ⊢
  obtain ⟨_, hrc, _⟩ := hre
  obtain ⟨cur, hcur, hcsz, hcell⟩ := hro.here
  have hgl : g < w.heap.size := (Array.getElem?_eq_some_iff.1 hcur).1
  obtain ⟨us, hflat, hus, hone⟩ := flat_of_cells (w := w) (S := S0) (b := g) (o := 0) (sz := 1) (es := es) (fun e he => (hes e he).1) (fun i j hi hj => by
    obtain ⟨u, hu, hr⟩ := hcell i j hi hj
    exact ⟨u, by rw [cell_of_row w _ _ cur 2 (0, 0) hcur, Nat.zero_add]; exact hu, hr⟩)
  have hone' := hone fun e he => (hes e he).2
  have hcu : cur.toList.take (es.length * 1) = us := by
    apply List.ext_getElem?
    intro p
    rw [List.getElem?_take]
    split
    · rename_i hp
      have hp2 : p < us.length := by rw [hflat.1]; exact hp
      have := hus p _ (List.getElem?_eq_getElem hp2)
      rw [add_mk, Nat.zero_add, cell_of_row w _ _ cur 2 (0, 0) hcur] at this
      rw [List.getElem?_eq_getElem hp2, ← this]
      simp
    · rename_i hp
      rw [List.getElem?_eq_none (by rw [hflat.1]; omega)]
  obtain ⟨ws, hwl, hwc⟩ : ∃ ws : List Value, ws.length = 1 ∧ ∀ (j : Nat), j < 1 → ∃ u c, ws[j]? = some u ∧ r[j]? = some c ∧ S0 vb (vo + j) ∧ w.cell? ⟨vb, vo + j, none⟩ = some u ∧ RdD w S0 c u := by
    have hex : ∀ j, j < 1 → ∃ u, S0 vb (vo + j) ∧ w.cell? ⟨vb, vo + j, none⟩ = some u ∧ ∃ c, r[j]? = some c ∧ RdD w S0 c u := fun j hj => by
      obtain ⟨h1, u, h2, h3⟩ := RdC.at _ _ _ hrc j _ (List.getElem?_eq_getElem (by omega : j < r.length))
      exact ⟨u, h1, h2, _, List.getElem?_eq_getElem (by omega), h3⟩
    refine ⟨(List.range 1).map fun j => if hj : j < 1 then (hex j hj).choose else undef, by simp, fun j hj => ?_⟩
    obtain ⟨h1, h2, c, h3, h4⟩ := (hex j hj).choose_spec
    refine ⟨_, c, ?_, h3, h1, h2, h4⟩
    rw [List.getElem?_map, List.getElem?_range hj, Option.map_some, dif_pos hj]
  have hws : ∀ (j : Nat) v, ws[j]? = some v → w.cell? ⟨vb, vo + j, none⟩ = some v := fun j v hj => by
    obtain ⟨u, c, h1, _, _, h2, _⟩ := hwc j (by rw [← hwl]; exact (List.getElem?_eq_some_iff.1 hj).1)
    rw [hj] at h1
    cases h1
    exact h2
  have hw1 : ∀ v ∈ ws, v.oneCell' = true := fun v hv => by
    obtain ⟨j, hj⟩ := List.mem_iff_getElem?.1 hv
    obtain ⟨u, c, h1, h2, _, _, h3⟩ := hwc j (by rw [← hwl]; exact (List.getElem?_eq_some_iff.1 hj).1)
    rw [hj] at h1
    cases h1
    exact RdD.one h3 (List.all_eq_true.1 hr2 c (List.mem_of_getElem? h2))
  have hvb : vb ≠ g := by
    obtain ⟨_, _, _, _, h, _⟩ := hwc 0 (by omega)
    intro he
    exact hro.apart _ (he ▸ h)
  have hfl : FlatD (RdD w S0) 1 (es.take i ++ (r :: es.drop i)) (us.take (i * 1) ++ ws ++ us.drop (i * 1)) := by
    rw [show es.take i ++ (r :: es.drop i) = es.take i ++ [r] ++ es.drop i by simp]
    have hrt : ∀ e ∈ es, e.length = 1 := fun e he => (hes e he).1
    refine ((flat_take hflat hrt i).append (flat_one hr1 hwl fun j c hc => ?_) (fun e he => hrt e (List.mem_of_mem_take he))).append (flat_drop hflat i) (fun e he => ?_)
    · obtain ⟨u, c', h1, h2, _, _, h3⟩ := hwc j (by rw [← hr1]; exact (List.getElem?_eq_some_iff.1 hc).1)
      rw [hc] at h2
      cases h2
      exact ⟨u, h1, h3⟩
    · rcases List.mem_append.1 he with he | he
      · exact hrt e (List.mem_of_mem_take he)
      · simp only [List.mem_singleton] at he
        rw [he, hr1]
  have hes' : ∀ e ∈ es.take i ++ (r :: es.drop i), e.length = 1 ∧ e.all DV.one = true := fun e he => by
    rcases List.mem_append.1 he with he | he
    · exact hes e (List.mem_of_mem_take he)
    · rcases List.mem_cons.1 he with rfl | he
      · exact ⟨hr1, hr2⟩
      · exact hes e (List.mem_of_mem_drop he)
  have hn' : (es.take i ++ (r :: es.drop i)).length = es.length + 1 := by
    rw [List.length_append, List.length_take, List.length_cons, List.length_drop]
    omega
  have hold : ∀ b p, S0 b p → (Base.but w g).old b := fun b p hb => ⟨hS b p hb, fun he => hro.apart p (he ▸ hb)⟩
  have hul : us.length = es.length * 1 := hflat.1
  by_cases hroom : es.length + 1 ≤ c
  · refine (ins36_shift g es.length c i vb vo vc cur ws w hcur hcsz hi hroom hro.len hvb hwl hws hw1 (fun j v hj hc => ?_)).mono ?_
    · refine hone' v ?_
      rw [← hcu]
      refine List.mem_of_getElem? (i := j) ?_
      rw [List.getElem?_take, if_pos hj]
      simpa using hc
    · rintro e w' ⟨rfl, hb, hrow⟩
      refine ⟨_, rfl, S0, ?_⟩
      have hp := post_row (o := Base.but w g) (es := es.take i ++ (r :: es.drop i)) (us := us.take (i * 1) ++ ws ++ us.drop (i * 1)) (sz := 1) (G := c) rfl hb hold hS (fun h => h.2 rfl) hb.size hrow ?_ (by rw [hn']; exact hroom) hro.len ?_ hes' hfl
      · rw [hn'] at hp
        exact hp
      · have hcl : cur.toList.length = c * 1 := by rw [Array.length_toList]; exact hcsz
        simp only [splice, List.length_append, List.length_take, List.length_drop, hcl, hwl]
        omega
      · rw [hn', show (es.length + 1) * 1 = es.length * 1 + 1 by omega]
        have := shift_row (cur := cur.toList) (us := us) (vs := ws) (K := es.length * 1) (p := i * 1) (q := 1) hcu hul (by omega) hwl (by have hcl : cur.toList.length = c * 1 := by { rw [Array.length_toList]; exact hcsz }; rw [hcl]; omega)
        rw [show i * 1 + 1 = i + 1 by omega, show es.length * 1 - i * 1 = (es.length - i) * 1 by omega] at this
        simpa using this
  · refine (ins36_grow g es.length c i vb vo vc us ws w hul (fun j v hj => by have h := hus j v hj; rwa [add_mk, Nat.zero_add] at h) hone' hi hro.fits (by omega) (by omega) hwl hws hw1).mono ?_
    rintro e w' ⟨G, row, rfl, hG1, hG2, hb, hs, hrl, hrow, ht⟩
    refine ⟨_, rfl, S0, ?_⟩
    have hp := post_row (o := Base.but w g) (es := es.take i ++ (r :: es.drop i)) (us := us.take (i * 1) ++ ws ++ us.drop (i * 1)) (sz := 1) (G := G) rfl (hb.mono fun k hk => hk.1) hold hS (fun h => Nat.lt_irrefl _ h.1) hb.size hrow hrl (by rw [hn']; exact hG1) hG2 (by rw [hn']; exact ht) hes' hfl
    rw [hn'] at hp
    exact hp
end Go.Proofs.Ytngghbloijkfoaa
