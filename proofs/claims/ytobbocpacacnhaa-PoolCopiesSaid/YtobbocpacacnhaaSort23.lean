/- A package's own sorted, at ints. -/
import Derived.Test.YtobbocpacacnhaaT1
import Derived.Test.YtobbocpacacnhaaSortI
import Derived.Test.YtobbocpacacnhaaLay
import Derived.Shelf.SlSortCmp.NoneTotal
namespace Go.Proofs.Ytobbocpacacnhaa.L
open Go.RowKit Go.MapKept Go.Maps Go.Shelf Go.Lib Go.Sort

abbrev IntB : Type := { x : Int // 0 ≤ x ∧ x ≤ 65536 }
instance : Inhabited IntB := ⟨⟨0, by decide⟩⟩
def encIB (x : IntB) : Value := .int .i64 x.1
def enIB (x : IntB) : List Value := [.int .i64 x.1]
theorem elt_IB : Elt Try.prog 3 1 enIB := ⟨elt_I.info, elt_I.pos, fun x => elt_I.len x.1, fun x => elt_I.one x.1⟩
def cfIB (x y : IntB) : Int := x.1 - y.1
theorem swoIB : SWO (ltOf cfIB) where
  irrefl x := by simp [ltOf, cfIB]
  trans x y z h1 h2 := by unfold ltOf cfIB at *; simp only [decide_eq_true_eq] at *; omega
  ntrans x y z h1 h2 := by unfold ltOf cfIB at *; simp only [decide_eq_false_iff_not] at *; omega
theorem row_bound {c b : Nat} {l : List Int} {w : World} (h : (rowR 3 1 enI (.slice (some ⟨b, 0, none⟩) l.length c) l).p w) (hb : ∀ x ∈ l, 0 ≤ x ∧ x ≤ 65536) : ∃ lB : List IntB, l = lB.map (·.1) ∧ (rowR 3 1 enIB (.slice (some ⟨b, 0, none⟩) lB.length c) lB).p w := by
  obtain ⟨lB, rfl⟩ : ∃ lB : List IntB, l = lB.map (·.1) := ⟨l.pmap (fun x h => (⟨x, h⟩ : IntB)) hb, by rw [List.map_pmap]; simp⟩
  have hflat : flat enIB lB = flat enI (lB.map (·.1)) := by simp only [flat, List.flatMap_map]; rfl
  refine ⟨lB, rfl, ?_⟩
  simpa only [rowR, hflat, List.length_map] using h
theorem row_unbound {c b n : Nat} {lB : List IntB} {w : World} (h : (rowR 3 1 enIB (.slice (some ⟨b, 0, none⟩) n c) lB).p w) : (rowR 3 1 enI (.slice (some ⟨b, 0, none⟩) n c) (lB.map (·.1))).p w := by
  have hflat : flat enIB lB = flat enI (lB.map (·.1)) := by simp only [flat, List.flatMap_map]; rfl
  simpa only [rowR, hflat, List.length_map] using h
theorem cmpIB0 (W : World) (x y : IntB) : Calls Try.prog 49 #[encIB x, encIB y] W fun e w' => e = .returned (.int .i64 (cfIB x y)) ∧ ∃ q os', w' = grow (W.drewN q) os' := by
  obtain ⟨x, hx⟩ := x
  obtain ⟨y, hy⟩ := y
  simp only [encIB, cfIB] at hx hy ⊢
  have hw : wrap64 (x - y) = x - y := by unfold wrap64; omega
  go_enter Try.func49, Try.ntmps49
  go_wp2
  go_ret
  exact ⟨rfl, 0, #[], by rw [grow_empty]; rfl⟩
theorem sortIB0 {b c : Nat} {l : List Int} (w : World) (h : (rowR 3 1 enI (.slice (some ⟨b, 0, none⟩) l.length c) l).p w) (hl : l.length ≤ 100000) (hb : ∀ x ∈ l, 0 ≤ x ∧ x ≤ 65536) :
    Calls Try.prog 60 #[.slice (some ⟨b, 0, none⟩) l.length c, .func (.func 49) #[] #[]] w fun e w' =>
      e = .returned (.tuple #[]) ∧ ∃ l' : List Int, l'.Perm l ∧ (l'.Pairwise fun x y => x ≤ y) ∧ Upd (rowR 3 1 enI (.slice (some ⟨b, 0, none⟩) l.length c) l) (rowR 3 1 enI (.slice (some ⟨b, 0, none⟩) l.length c) l') w w' := by
  obtain ⟨lB, rfl, hB⟩ := row_bound h hb
  rw [List.length_map] at hl ⊢
  have hc := sort_row1 (P := Try.prog) (ρ := Try.sortI_ren) Try.sortI elt_IB (enc := encIB) (fun _ => rfl) cfIB swoIB 49 #[] (enters_of Try.func49 (by kernel_rfl) rfl) cmpIB0 w hB (by omega)
  change Calls Try.prog 60 _ _ _ at hc
  refine hc.mono ?_
  rintro e w' ⟨rfl, l', hp, hs, hu⟩
  refine ⟨rfl, l'.map (·.1), hp.map _, ?_, hu.1, row_unbound hu.2.1, hu.2.2⟩
  rw [List.pairwise_map, List.pairwise_iff_getElem]
  intro i j hi hj hij
  have := hs i j hij hj
  rw [getElem!_pos l' j hj, getElem!_pos l' i hi] at this
  unfold ltOf cfIB at this
  simp only [decide_eq_false_iff_not] at this
  omega
/-- The package's own sorted. -/
theorem e_sorted0 {A : Option Addr} {c : Nat} {l : List Int} (w : World) (h : (rowR 3 1 enI (.slice A l.length c) l).p w) (hl : l.length ≤ 100000) (hb : ∀ x ∈ l, 0 ≤ x ∧ x ≤ 65536) :
    Calls Try.prog 46 #[.slice A l.length c, .func (.func 49) #[] #[]] w fun e w' =>
      e = .returned (.slice A l.length c) ∧ ∃ l' : List Int, l'.Perm l ∧ (l'.Pairwise fun x y => x ≤ y) ∧ Upd (rowR 3 1 enI (.slice A l.length c) l) (rowR 3 1 enI (.slice A l.length c) l') w w' := by
  cases A with
  | none =>
    have hnil : l = [] := row_nil (rowR_at h elt_I.len)
    subst hnil
    have hc := AnyF.slices_SortFunc_none (P := Try.prog) (ρ := Try.sortI0_ren) Try.sortI0 none c (.func (.func 49) #[] #[]) w
    change Calls Try.prog 60 _ _ _ at hc
    have hu : Upd (rowR 3 1 enI (.slice none ([] : List Int).length c) []) (rowR 3 1 enI (.slice none ([] : List Int).length c) []) w w := ⟨Fr.refl _ _, h, fun b hb => by simp [rowR, Value.ownBlock] at hb⟩
    clear h hb hl
    go_enter Try.func46, Try.ntmps46
    go_wp2_with (go_at_call 60; refine hc.mono ?_; rintro e w' ⟨rfl, rfl⟩)
    go_ret
    exact ⟨rfl, [], List.Perm.refl _, List.Pairwise.nil, hu⟩
  | some a =>
    obtain ⟨b, off, ha⟩ : ∃ b, ∃ _ : Unit, a = ⟨b, 0, none⟩ := by
      rcases (show w.ownsRow 0 3 1 (.slice (some a) l.length c) l.length (flat enI l) from h).2 with ⟨h', _⟩ | ⟨g', cap, cur, h', _⟩
      · cases h'
      · cases h'; exact ⟨g', (), rfl⟩
    subst ha
    have hc := sortIB0 w h hl hb
    generalize hR : (fun w' => ∃ l' : List Int, l'.Perm l ∧ (l'.Pairwise fun x y => x ≤ y) ∧ Upd (rowR 3 1 enI (.slice (some ⟨b, 0, none⟩) l.length c) l) (rowR 3 1 enI (.slice (some ⟨b, 0, none⟩) l.length c) l') w w') = R
    have hc' : Calls Try.prog 60 #[.slice (some ⟨b, 0, none⟩) l.length c, .func (.func 49) #[] #[]] w fun e w' => e = .returned (.tuple #[]) ∧ R w' := by rw [← hR]; exact hc
    have hR' : ∀ w', R w' → _ := fun w' hw' => by rw [← hR] at hw'; exact hw'
    refine Calls.mono (R := fun e w' => e = .returned (.slice (some ⟨b, 0, none⟩) l.length c) ∧ R w') ?_ (fun e w' hw' => ⟨hw'.1, hR' w' hw'.2⟩)
    clear hc hR' hR h hb
    generalize l.length = n at *
    go_enter Try.func46, Try.ntmps46
    go_wp2_with (go_at_call 60; refine hc'.mono ?_; rintro e w' ⟨rfl, hr⟩)
    go_ret
    exact ⟨rfl, hr⟩
theorem cmpIB1 (W : World) (x y : IntB) : Calls Try.prog 53 #[encIB x, encIB y] W fun e w' => e = .returned (.int .i64 (cfIB x y)) ∧ ∃ q os', w' = grow (W.drewN q) os' := by
  obtain ⟨x, hx⟩ := x
  obtain ⟨y, hy⟩ := y
  simp only [encIB, cfIB] at hx hy ⊢
  have hw : wrap64 (x - y) = x - y := by unfold wrap64; omega
  go_enter Try.func53, Try.ntmps53
  go_wp2
  go_ret
  exact ⟨rfl, 0, #[], by rw [grow_empty]; rfl⟩
theorem sortIB1 {b c : Nat} {l : List Int} (w : World) (h : (rowR 3 1 enI (.slice (some ⟨b, 0, none⟩) l.length c) l).p w) (hl : l.length ≤ 100000) (hb : ∀ x ∈ l, 0 ≤ x ∧ x ≤ 65536) :
    Calls Try.prog 60 #[.slice (some ⟨b, 0, none⟩) l.length c, .func (.func 53) #[] #[]] w fun e w' =>
      e = .returned (.tuple #[]) ∧ ∃ l' : List Int, l'.Perm l ∧ (l'.Pairwise fun x y => x ≤ y) ∧ Upd (rowR 3 1 enI (.slice (some ⟨b, 0, none⟩) l.length c) l) (rowR 3 1 enI (.slice (some ⟨b, 0, none⟩) l.length c) l') w w' := by
  obtain ⟨lB, rfl, hB⟩ := row_bound h hb
  rw [List.length_map] at hl ⊢
  have hc := sort_row1 (P := Try.prog) (ρ := Try.sortI_ren) Try.sortI elt_IB (enc := encIB) (fun _ => rfl) cfIB swoIB 53 #[] (enters_of Try.func53 (by kernel_rfl) rfl) cmpIB1 w hB (by omega)
  change Calls Try.prog 60 _ _ _ at hc
  refine hc.mono ?_
  rintro e w' ⟨rfl, l', hp, hs, hu⟩
  refine ⟨rfl, l'.map (·.1), hp.map _, ?_, hu.1, row_unbound hu.2.1, hu.2.2⟩
  rw [List.pairwise_map, List.pairwise_iff_getElem]
  intro i j hi hj hij
  have := hs i j hij hj
  rw [getElem!_pos l' j hj, getElem!_pos l' i hi] at this
  unfold ltOf cfIB at this
  simp only [decide_eq_false_iff_not] at this
  omega
/-- The package's own sorted. -/
theorem e_sorted1 {A : Option Addr} {c : Nat} {l : List Int} (w : World) (h : (rowR 3 1 enI (.slice A l.length c) l).p w) (hl : l.length ≤ 100000) (hb : ∀ x ∈ l, 0 ≤ x ∧ x ≤ 65536) :
    Calls Try.prog 46 #[.slice A l.length c, .func (.func 53) #[] #[]] w fun e w' =>
      e = .returned (.slice A l.length c) ∧ ∃ l' : List Int, l'.Perm l ∧ (l'.Pairwise fun x y => x ≤ y) ∧ Upd (rowR 3 1 enI (.slice A l.length c) l) (rowR 3 1 enI (.slice A l.length c) l') w w' := by
  cases A with
  | none =>
    have hnil : l = [] := row_nil (rowR_at h elt_I.len)
    subst hnil
    have hc := AnyF.slices_SortFunc_none (P := Try.prog) (ρ := Try.sortI0_ren) Try.sortI0 none c (.func (.func 53) #[] #[]) w
    change Calls Try.prog 60 _ _ _ at hc
    have hu : Upd (rowR 3 1 enI (.slice none ([] : List Int).length c) []) (rowR 3 1 enI (.slice none ([] : List Int).length c) []) w w := ⟨Fr.refl _ _, h, fun b hb => by simp [rowR, Value.ownBlock] at hb⟩
    clear h hb hl
    go_enter Try.func46, Try.ntmps46
    go_wp2_with (go_at_call 60; refine hc.mono ?_; rintro e w' ⟨rfl, rfl⟩)
    go_ret
    exact ⟨rfl, [], List.Perm.refl _, List.Pairwise.nil, hu⟩
  | some a =>
    obtain ⟨b, off, ha⟩ : ∃ b, ∃ _ : Unit, a = ⟨b, 0, none⟩ := by
      rcases (show w.ownsRow 0 3 1 (.slice (some a) l.length c) l.length (flat enI l) from h).2 with ⟨h', _⟩ | ⟨g', cap, cur, h', _⟩
      · cases h'
      · cases h'; exact ⟨g', (), rfl⟩
    subst ha
    have hc := sortIB1 w h hl hb
    generalize hR : (fun w' => ∃ l' : List Int, l'.Perm l ∧ (l'.Pairwise fun x y => x ≤ y) ∧ Upd (rowR 3 1 enI (.slice (some ⟨b, 0, none⟩) l.length c) l) (rowR 3 1 enI (.slice (some ⟨b, 0, none⟩) l.length c) l') w w') = R
    have hc' : Calls Try.prog 60 #[.slice (some ⟨b, 0, none⟩) l.length c, .func (.func 53) #[] #[]] w fun e w' => e = .returned (.tuple #[]) ∧ R w' := by rw [← hR]; exact hc
    have hR' : ∀ w', R w' → _ := fun w' hw' => by rw [← hR] at hw'; exact hw'
    refine Calls.mono (R := fun e w' => e = .returned (.slice (some ⟨b, 0, none⟩) l.length c) ∧ R w') ?_ (fun e w' hw' => ⟨hw'.1, hR' w' hw'.2⟩)
    clear hc hR' hR h hb
    generalize l.length = n at *
    go_enter Try.func46, Try.ntmps46
    go_wp2_with (go_at_call 60; refine hc'.mono ?_; rintro e w' ⟨rfl, hr⟩)
    go_ret
    exact ⟨rfl, hr⟩
end Go.Proofs.Ytobbocpacacnhaa.L
