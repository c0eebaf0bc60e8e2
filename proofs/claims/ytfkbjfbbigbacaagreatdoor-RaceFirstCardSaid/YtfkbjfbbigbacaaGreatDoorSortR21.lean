/- Layer 21: races sorted by address. -/
import Derived.Test.YtfkbjfbbigbacaaGreatDoorT25
import Derived.Test.YtfkbjfbbigbacaaGreatDoorSort
import Derived.Test.YtfkbjfbbigbacaaGreatDoorLay
import Derived.Shelf.SlSortCmp.NoneTotal
namespace Go.Proofs.YtfkbjfbbigbacaaGreatDoor.L
open Go.RowKit Go.MapKept Go.Maps Go.Shelf Go.Lib Go.Sort

instance : Inhabited Race := ⟨zeroR⟩
def cfRace (x y : Race) : Int := if x.addr < y.addr then -1 else 1
theorem ltRace (x y : Race) : ltOf cfRace x y = decide (x.addr < y.addr) := by
  unfold ltOf cfRace
  by_cases h : x.addr < y.addr
  · rw [if_pos h]; simp [h]
  · rw [if_neg h]; simp [h]
theorem swoRace : SWO (ltOf cfRace) where
  irrefl x := by rw [ltRace]; simp
  trans x y z h1 h2 := by rw [ltRace] at *; simp only [decide_eq_true_eq] at *; omega
  ntrans x y z h1 h2 := by rw [ltRace] at *; simp only [decide_eq_false_iff_not] at *; omega
theorem cmpRace (W : World) (x y : Race) : Calls Tryz.prog 44 #[.agg (enRace x).toArray, .agg (enRace y).toArray] W fun e w' => e = .returned (.int .i64 (cfRace x y)) ∧ ∃ q os', w' = grow (W.drewN q) os' := by
  have H : Hid (cfRace x y = if x.addr < y.addr then -1 else 1) := Lib.hid rfl
  generalize cfRace x y = r at H ⊢
  simp only [enRace]
  by_cases h1 : x.addr < y.addr
  · go_enter Tryz.func44, Tryz.ntmps44
    go_wp2
    go_ret
    exact ⟨by rw [H.out, if_pos h1]; rfl, 0, _, by rw [alloc_eq_grow, alloc_eq_grow, grow_grow]; rfl⟩
  · go_enter Tryz.func44, Tryz.ntmps44
    go_wp2
    go_ret
    exact ⟨by rw [H.out, if_neg (by omega)]; rfl, 0, _, by rw [alloc_eq_grow, alloc_eq_grow, grow_grow]; rfl⟩
theorem sortRace {b c : Nat} {l : List Race} (w : World) (h : (rowR 47 7 enRace (.slice (some ⟨b, 0, none⟩) l.length c) l).p w) (hl : l.length ≤ 1000000) :
    Calls Tryz.prog 43 #[.slice (some ⟨b, 0, none⟩) l.length c, .func (.func 44) #[] #[]] w fun e w' =>
      e = .returned (.tuple #[]) ∧ ∃ l' : List Race, l'.Perm l ∧ (l'.Pairwise fun x y => x.addr ≤ y.addr) ∧ Upd (rowR 47 7 enRace (.slice (some ⟨b, 0, none⟩) l.length c) l) (rowR 47 7 enRace (.slice (some ⟨b, 0, none⟩) l.length c) l') w w' := by
  have hc := sort_row (P := Tryz.prog) (ρ := Tryz.sortSrt_ren) Tryz.sortSrt elt_Race (fun w => by kernel_rfl) (fun w => by kernel_rfl) cfRace swoRace 44 #[] (enters_of Tryz.func44 (by kernel_rfl) rfl) cmpRace w h hl
  change Calls Tryz.prog 43 _ _ _ at hc
  refine hc.mono ?_
  rintro e w' ⟨rfl, l', hp, hs, hu⟩
  refine ⟨rfl, l', hp, ?_, hu⟩
  rw [List.pairwise_iff_getElem]
  intro i j hi hj hij
  have := hs i j hij hj
  rw [getElem!_pos l' j hj, getElem!_pos l' i hi, ltRace] at this
  simp only [decide_eq_false_iff_not] at this
  omega
theorem e_sortRace {A : Option Addr} {c : Nat} {l : List Race} (w : World) (h : (rowR 47 7 enRace (.slice A l.length c) l).p w) (hl : l.length ≤ 1000000) :
    Calls Tryz.prog 43 #[.slice A l.length c, .func (.func 44) #[] #[]] w fun e w' =>
      e = .returned (.tuple #[]) ∧ ∃ l' : List Race, l'.Perm l ∧ (l'.Pairwise fun x y => x.addr ≤ y.addr) ∧ Upd (rowR 47 7 enRace (.slice A l.length c) l) (rowR 47 7 enRace (.slice A l.length c) l') w w' := by
  cases A with
  | none =>
    have hnil : l = [] := row_nil (rowR_at h elt_Race.len)
    subst hnil
    have hc := AnyF.slices_SortFunc_none (P := Tryz.prog) (ρ := Tryz.sortSrt_ren) Tryz.sortSrt none c (.func (.func 44) #[] #[]) w
    change Calls Tryz.prog 43 _ _ _ at hc
    have hu : Upd (rowR 47 7 enRace (.slice none ([] : List Race).length c) []) (rowR 47 7 enRace (.slice none ([] : List Race).length c) []) w w := ⟨Fr.refl _ _, h, fun b hb => by simp [rowR, Value.ownBlock] at hb⟩
    exact hc.mono fun e w' ⟨he, hw⟩ => by subst hw; exact ⟨he, [], List.Perm.refl _, List.Pairwise.nil, hu⟩
  | some a =>
    obtain ⟨b, off, ha⟩ : ∃ b, ∃ _ : Unit, a = ⟨b, 0, none⟩ := by
      rcases (show w.ownsRow 0 47 7 (.slice (some a) l.length c) l.length (flat enRace l) from h).2 with ⟨h', _⟩ | ⟨g', cap, cur, h', _⟩
      · cases h'
      · cases h'; exact ⟨g', (), rfl⟩
    subst ha
    exact sortRace w h hl
end Go.Proofs.YtfkbjfbbigbacaaGreatDoor.L
