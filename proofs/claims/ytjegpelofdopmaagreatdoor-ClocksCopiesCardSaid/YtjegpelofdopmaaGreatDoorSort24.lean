/- Layer 24: goroutines sorted by their numbers. -/
import Derived.Test.YtjegpelofdopmaaGreatDoorT22
import Derived.Test.YtjegpelofdopmaaGreatDoorSort
import Derived.Test.YtjegpelofdopmaaGreatDoorLay
import Derived.Shelf.SlSortCmp.NoneTotal
namespace Go.Proofs.YtjegpelofdopmaaGreatDoor.L
open Go.RowKit Go.MapKept Go.Maps Go.Shelf Go.Lib Go.Sort

/-- A goroutine that may be, and its epoch. -/
abbrev One5B : Type := { x : One5 // 0 ≤ x.gx ∧ x.gx ≤ 65535 }
instance : Inhabited One5B := ⟨⟨⟨0, 0⟩, by decide⟩⟩
def enOne5B (x : One5B) : List Value := enOne5 x.1
theorem elt_One5B : Elt Tryz.prog 119 2 enOne5B := ⟨elt_One5.info, elt_One5.pos, fun x => elt_One5.len x.1, fun x => elt_One5.one x.1⟩
def cfOne5 (x y : One5B) : Int := x.1.gx - y.1.gx
theorem swoOne5 : SWO (ltOf cfOne5) where
  irrefl x := by simp [ltOf, cfOne5]
  trans x y z h1 h2 := by unfold ltOf cfOne5 at *; simp only [decide_eq_true_eq] at *; omega
  ntrans x y z h1 h2 := by unfold ltOf cfOne5 at *; simp only [decide_eq_false_iff_not] at *; omega
theorem cmpOne5 (W : World) (x y : One5B) : Calls Tryz.prog 59 #[.agg (enOne5B x).toArray, .agg (enOne5B y).toArray] W fun e w' => e = .returned (.int .i64 (cfOne5 x y)) ∧ ∃ q os', w' = grow (W.drewN q) os' := by
  obtain ⟨⟨xa, xb⟩, hx⟩ := x
  obtain ⟨⟨ya, yb⟩, hy⟩ := y
  simp only [enOne5B, enOne5, cfOne5] at hx hy ⊢
  have hw : wrap64 (xa - ya) = xa - ya := by unfold wrap64; omega
  go_enter Tryz.func59, Tryz.ntmps59
  go_wp2
  go_ret
  exact ⟨rfl, 0, _, by rw [alloc_eq_grow, alloc_eq_grow, grow_grow]; rfl⟩
theorem sortOne5 {b c : Nat} {l : List One5} (w : World) (h : (rowR 119 2 enOne5 (.slice (some ⟨b, 0, none⟩) l.length c) l).p w) (hl : l.length ≤ 100000) (hb : ∀ x ∈ l, 0 ≤ x.gx ∧ x.gx ≤ 65535) :
    Calls Tryz.prog 78 #[.slice (some ⟨b, 0, none⟩) l.length c, .func (.func 59) #[] #[]] w fun e w' =>
      e = .returned (.tuple #[]) ∧ ∃ l' : List One5, l'.Perm l ∧ (l'.Pairwise fun x y => x.gx ≤ y.gx) ∧ Upd (rowR 119 2 enOne5 (.slice (some ⟨b, 0, none⟩) l.length c) l) (rowR 119 2 enOne5 (.slice (some ⟨b, 0, none⟩) l.length c) l') w w' := by
  obtain ⟨lB, rfl⟩ : ∃ lB : List One5B, l = lB.map (·.1) := ⟨l.pmap (fun x h => (⟨x, h⟩ : One5B)) hb, by rw [List.map_pmap]; simp⟩
  have hflat : ∀ m : List One5B, flat enOne5B m = flat enOne5 (m.map (·.1)) := fun m => by simp only [flat, List.flatMap_map]; rfl
  have hrow : ∀ (m : List One5B) (v : Value), (rowR 119 2 enOne5 v (m.map (·.1))).p = (rowR 119 2 enOne5B v m).p := fun m v => by
    funext W; simp only [rowR, hflat, List.length_map]
  rw [hrow, List.length_map] at h
  rw [List.length_map] at hl ⊢
  have hc := sort_row (P := Tryz.prog) (ρ := Tryz.sortSrt_ren) Tryz.sortSrt elt_One5B (fun w => by kernel_rfl) (fun w => by kernel_rfl) cfOne5 swoOne5 59 #[] (enters_of Tryz.func59 (by kernel_rfl) rfl) cmpOne5 w h (by omega)
  change Calls Tryz.prog 78 _ _ _ at hc
  refine hc.mono ?_
  rintro e w' ⟨rfl, l', hp, hs, hu⟩
  refine ⟨rfl, l'.map (·.1), hp.map _, ?_, hu.1, ?_, hu.2.2⟩
  · rw [List.pairwise_map, List.pairwise_iff_getElem]
    intro i j hi hj hij
    have := hs i j hij hj
    rw [getElem!_pos l' j hj, getElem!_pos l' i hi] at this
    unfold ltOf cfOne5 at this
    simp only [decide_eq_false_iff_not] at this
    omega
  · rw [hrow]; exact hu.2.1
/-- The package's own sorted. -/
theorem e_sorted {A : Option Addr} {c : Nat} {l : List One5} (w : World) (h : (rowR 119 2 enOne5 (.slice A l.length c) l).p w) (hl : l.length ≤ 100000) (hb : ∀ x ∈ l, 0 ≤ x.gx ∧ x.gx ≤ 65535) :
    Calls Tryz.prog 58 #[.slice A l.length c, .func (.func 59) #[] #[]] w fun e w' =>
      e = .returned (.slice A l.length c) ∧ ∃ l' : List One5, l'.Perm l ∧ (l'.Pairwise fun x y => x.gx ≤ y.gx) ∧ Upd (rowR 119 2 enOne5 (.slice A l.length c) l) (rowR 119 2 enOne5 (.slice A l.length c) l') w w' := by
  cases A with
  | none =>
    have hnil : l = [] := row_nil (rowR_at h elt_One5.len)
    subst hnil
    have hc := AnyF.slices_SortFunc_none (P := Tryz.prog) (ρ := Tryz.sortSrt_ren) Tryz.sortSrt none c (.func (.func 59) #[] #[]) w
    change Calls Tryz.prog 78 _ _ _ at hc
    have hu : Upd (rowR 119 2 enOne5 (.slice none ([] : List One5).length c) []) (rowR 119 2 enOne5 (.slice none ([] : List One5).length c) []) w w := ⟨Fr.refl _ _, h, fun b hb => by simp [rowR, Value.ownBlock] at hb⟩
    clear h hb hl
    go_enter Tryz.func58, Tryz.ntmps58
    go_wp2_with (go_at_call 78; refine hc.mono ?_; rintro e w' ⟨rfl, rfl⟩)
    go_ret
    exact ⟨rfl, [], List.Perm.refl _, List.Pairwise.nil, hu⟩
  | some a =>
    obtain ⟨b, off, ha⟩ : ∃ b, ∃ _ : Unit, a = ⟨b, 0, none⟩ := by
      rcases (show w.ownsRow 0 119 2 (.slice (some a) l.length c) l.length (flat enOne5 l) from h).2 with ⟨h', _⟩ | ⟨g', cap, cur, h', _⟩
      · cases h'
      · cases h'; exact ⟨g', (), rfl⟩
    subst ha
    have hc := sortOne5 w h hl hb
    generalize hR : (fun w' => ∃ l' : List One5, l'.Perm l ∧ (l'.Pairwise fun x y => x.gx ≤ y.gx) ∧ Upd (rowR 119 2 enOne5 (.slice (some ⟨b, 0, none⟩) l.length c) l) (rowR 119 2 enOne5 (.slice (some ⟨b, 0, none⟩) l.length c) l') w w') = R
    have hc' : Calls Tryz.prog 78 #[.slice (some ⟨b, 0, none⟩) l.length c, .func (.func 59) #[] #[]] w fun e w' => e = .returned (.tuple #[]) ∧ R w' := by rw [← hR]; exact hc
    have hR' : ∀ w', R w' → _ := fun w' hw' => by rw [← hR] at hw'; exact hw'
    refine Calls.mono (R := fun e w' => e = .returned (.slice (some ⟨b, 0, none⟩) l.length c) ∧ R w') ?_ (fun e w' hw' => ⟨hw'.1, hR' w' hw'.2⟩)
    clear hc hR' hR h hb
    generalize l.length = n at *
    go_enter Tryz.func58, Tryz.ntmps58
    go_wp2_with (go_at_call 78; refine hc'.mono ?_; rintro e w' ⟨rfl, hr⟩)
    go_ret
    exact ⟨rfl, hr⟩
end Go.Proofs.YtjegpelofdopmaaGreatDoor.L
