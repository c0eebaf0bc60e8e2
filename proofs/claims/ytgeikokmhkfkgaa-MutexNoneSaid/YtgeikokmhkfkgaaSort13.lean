/- Layer 13: holders sorted by mutex. -/
import Derived.Test.YtgeikokmhkfkgaaT3
import Derived.Test.YtgeikokmhkfkgaaSort
import Derived.Test.YtgeikokmhkfkgaaLay
import Derived.Shelf.SlSortCmp.NoneTotal
namespace Go.Proofs.Ytgeikokmhkfkgaa.L
open Go.RowKit Go.MapKept Go.Maps Go.Shelf Go.Lib Go.Sort

/-- A mutex that may be, and who holds it. -/
abbrev TwoB : Type := { x : Two // 0 ≤ x.a ∧ x.a ≤ 65535 }
instance : Inhabited TwoB := ⟨⟨⟨0, 0⟩, by decide⟩⟩
def enTwoB (x : TwoB) : List Value := enTwo x.1
theorem elt_TwoB : Elt Try.prog 72 2 enTwoB := ⟨elt_Two.info, elt_Two.pos, fun x => elt_Two.len x.1, fun x => elt_Two.one x.1⟩
def cfTwo (x y : TwoB) : Int := x.1.a - y.1.a
theorem swoTwo : SWO (ltOf cfTwo) where
  irrefl x := by simp [ltOf, cfTwo]
  trans x y z h1 h2 := by unfold ltOf cfTwo at *; simp only [decide_eq_true_eq] at *; omega
  ntrans x y z h1 h2 := by unfold ltOf cfTwo at *; simp only [decide_eq_false_iff_not] at *; omega
theorem cmpTwo (W : World) (x y : TwoB) : Calls Try.prog 31 #[.agg (enTwoB x).toArray, .agg (enTwoB y).toArray] W fun e w' => e = .returned (.int .i64 (cfTwo x y)) ∧ ∃ q os', w' = grow (W.drewN q) os' := by
  obtain ⟨⟨xa, xb⟩, hx⟩ := x
  obtain ⟨⟨ya, yb⟩, hy⟩ := y
  simp only [enTwoB, enTwo, cfTwo] at hx hy ⊢
  have hw : wrap64 (xa - ya) = xa - ya := by unfold wrap64; omega
  go_enter Try.func31, Try.ntmps31
  go_wp2
  go_ret
  exact ⟨rfl, 0, _, by rw [alloc_eq_grow, alloc_eq_grow, grow_grow]; rfl⟩
theorem sortTwo {b c : Nat} {l : List Two} (w : World) (h : (rowR 72 2 enTwo (.slice (some ⟨b, 0, none⟩) l.length c) l).p w) (hl : l.length ≤ 1000) (hb : ∀ x ∈ l, 0 ≤ x.a ∧ x.a ≤ 65535) :
    Calls Try.prog 36 #[.slice (some ⟨b, 0, none⟩) l.length c, .func (.func 31) #[] #[]] w fun e w' =>
      e = .returned (.tuple #[]) ∧ ∃ l' : List Two, l'.Perm l ∧ (l'.Pairwise fun x y => x.a ≤ y.a) ∧ Upd (rowR 72 2 enTwo (.slice (some ⟨b, 0, none⟩) l.length c) l) (rowR 72 2 enTwo (.slice (some ⟨b, 0, none⟩) l.length c) l') w w' := by
  obtain ⟨lB, rfl⟩ : ∃ lB : List TwoB, l = lB.map (·.1) := ⟨l.pmap (fun x h => (⟨x, h⟩ : TwoB)) hb, by rw [List.map_pmap]; simp⟩
  have hflat : ∀ m : List TwoB, flat enTwoB m = flat enTwo (m.map (·.1)) := fun m => by simp only [flat, List.flatMap_map]; rfl
  have hrow : ∀ (m : List TwoB) (v : Value), (rowR 72 2 enTwo v (m.map (·.1))).p = (rowR 72 2 enTwoB v m).p := fun m v => by
    funext W; simp only [rowR, hflat, List.length_map]
  rw [hrow, List.length_map] at h
  rw [List.length_map] at hl ⊢
  have hc := sort_row (P := Try.prog) (ρ := Try.sortSrt_ren) Try.sortSrt elt_TwoB (fun w => by kernel_rfl) (fun w => by kernel_rfl) cfTwo swoTwo 31 #[] (enters_of Try.func31 (by kernel_rfl) rfl) cmpTwo w h (by omega)
  change Calls Try.prog 36 _ _ _ at hc
  refine hc.mono ?_
  rintro e w' ⟨rfl, l', hp, hs, hu⟩
  refine ⟨rfl, l'.map (·.1), hp.map _, ?_, hu.1, ?_, hu.2.2⟩
  · rw [List.pairwise_map, List.pairwise_iff_getElem]
    intro i j hi hj hij
    have := hs i j hij hj
    rw [getElem!_pos l' j hj, getElem!_pos l' i hi] at this
    unfold ltOf cfTwo at this
    simp only [decide_eq_false_iff_not] at this
    omega
  · rw [hrow]; exact hu.2.1
/-- The package's own sorted. -/
theorem e_sorted {A : Option Addr} {c : Nat} {l : List Two} (w : World) (h : (rowR 72 2 enTwo (.slice A l.length c) l).p w) (hl : l.length ≤ 1000) (hb : ∀ x ∈ l, 0 ≤ x.a ∧ x.a ≤ 65535) :
    Calls Try.prog 30 #[.slice A l.length c, .func (.func 31) #[] #[]] w fun e w' =>
      e = .returned (.slice A l.length c) ∧ ∃ l' : List Two, l'.Perm l ∧ (l'.Pairwise fun x y => x.a ≤ y.a) ∧ Upd (rowR 72 2 enTwo (.slice A l.length c) l) (rowR 72 2 enTwo (.slice A l.length c) l') w w' := by
  cases A with
  | none =>
    have hnil : l = [] := row_nil (rowR_at h elt_Two.len)
    subst hnil
    have hc := AnyF.slices_SortFunc_none (P := Try.prog) (ρ := Try.sortSrt_ren) Try.sortSrt none c (.func (.func 31) #[] #[]) w
    change Calls Try.prog 36 _ _ _ at hc
    have hu : Upd (rowR 72 2 enTwo (.slice none ([] : List Two).length c) []) (rowR 72 2 enTwo (.slice none ([] : List Two).length c) []) w w := ⟨Fr.refl _ _, h, fun b hb => by simp [rowR, Value.ownBlock] at hb⟩
    clear h hb hl
    go_enter Try.func30, Try.ntmps30
    go_wp2_with (go_at_call 36; refine hc.mono ?_; rintro e w' ⟨rfl, rfl⟩)
    go_ret
    exact ⟨rfl, [], List.Perm.refl _, List.Pairwise.nil, hu⟩
  | some a =>
    obtain ⟨b, off, ha⟩ : ∃ b, ∃ _ : Unit, a = ⟨b, 0, none⟩ := by
      rcases (show w.ownsRow 0 72 2 (.slice (some a) l.length c) l.length (flat enTwo l) from h).2 with ⟨h', _⟩ | ⟨g', cap, cur, h', _⟩
      · cases h'
      · cases h'; exact ⟨g', (), rfl⟩
    subst ha
    have hc := sortTwo w h hl hb
    generalize hR : (fun w' => ∃ l' : List Two, l'.Perm l ∧ (l'.Pairwise fun x y => x.a ≤ y.a) ∧ Upd (rowR 72 2 enTwo (.slice (some ⟨b, 0, none⟩) l.length c) l) (rowR 72 2 enTwo (.slice (some ⟨b, 0, none⟩) l.length c) l') w w') = R
    have hc' : Calls Try.prog 36 #[.slice (some ⟨b, 0, none⟩) l.length c, .func (.func 31) #[] #[]] w fun e w' => e = .returned (.tuple #[]) ∧ R w' := by rw [← hR]; exact hc
    have hR' : ∀ w', R w' → _ := fun w' hw' => by rw [← hR] at hw'; exact hw'
    refine Calls.mono (R := fun e w' => e = .returned (.slice (some ⟨b, 0, none⟩) l.length c) ∧ R w') ?_ (fun e w' hw' => ⟨hw'.1, hR' w' hw'.2⟩)
    clear hc hR' hR h hb
    generalize l.length = n at *
    go_enter Try.func30, Try.ntmps30
    go_wp2_with (go_at_call 36; refine hc'.mono ?_; rintro e w' ⟨rfl, hr⟩)
    go_ret
    exact ⟨rfl, hr⟩
end Go.Proofs.Ytgeikokmhkfkgaa.L
