/- Layer 7: pairs sorted, with their order. -/
import Derived.Test.YtfkbjfbbigbacaaGreatDoorT30
import Derived.Test.YtfkbjfbbigbacaaGreatDoorSort
import Derived.Test.YtfkbjfbbigbacaaGreatDoorCmpG21
import Derived.Test.YtfkbjfbbigbacaaGreatDoorLayP
import Derived.Shelf.SlSortCmp.NoneTotal
namespace Go.Proofs.YtfkbjfbbigbacaaGreatDoor.L
open Go.RowKit Go.MapKept Go.Maps Go.Shelf Go.Lib Go.Sort

instance : Inhabited Pair := ⟨⟨⟨0, 0⟩, ⟨0, 0⟩⟩⟩
theorem ltPair (x y : Pair) : ltOf cfPair x y = true ↔ ltP x y := by
  unfold ltOf cfPair ltP
  rw [decide_eq_true_eq, orI_ng, cmp_ng, cmp_ng]
  unfold Site.cmp orI
  have h : (if cmpI x.a.f y.a.f = 0 then cmpI x.a.pc y.a.pc else cmpI x.a.f y.a.f) = 0 ↔ x.a.f = y.a.f ∧ x.a.pc = y.a.pc := by
    rw [← cmpI_zr (x := x.a.f), ← cmpI_zr (x := x.a.pc)]; split <;> omega
  rw [h]
theorem ltPair_f (x y : Pair) : ltOf cfPair x y = false ↔ ¬ ltP x y := by rw [← ltPair]; simp
theorem swoPair : SWO (ltOf cfPair) where
  irrefl x := by rw [ltPair_f]; exact ltP_irr x
  trans x y z h1 h2 := by rw [ltPair] at *; exact ltP_trans h1 h2
  ntrans x y z h1 h2 := by rw [ltPair_f] at *; unfold ltP at *; omega
theorem sortPair {b c : Nat} {l : List Pair} (w : World) (h : (rowR 45 4 enPair (.slice (some ⟨b, 0, none⟩) l.length c) l).p w) (hl : l.length ≤ 1000000) :
    Calls Tryz.prog 106 #[.slice (some ⟨b, 0, none⟩) l.length c, .func (.func 76) #[] #[]] w fun e w' =>
      e = .returned (.tuple #[]) ∧ ∃ l' : List Pair, l'.Perm l ∧ (l'.Pairwise fun x y => ¬ ltP y x) ∧ Upd (rowR 45 4 enPair (.slice (some ⟨b, 0, none⟩) l.length c) l) (rowR 45 4 enPair (.slice (some ⟨b, 0, none⟩) l.length c) l') w w' := by
  have hc := sort_row (P := Tryz.prog) (ρ := Tryz.sortSrt_ren) Tryz.sortSrt elt_Pair (fun w => by kernel_rfl) (fun w => by kernel_rfl) cfPair swoPair 76 #[] (enters_of Tryz.func76 (by kernel_rfl) rfl) cmpPair w h hl
  change Calls Tryz.prog 106 _ _ _ at hc
  refine hc.mono fun e w' ⟨he, l', hp, hs, hu⟩ => ⟨he, l', hp, ?_, hu⟩
  rw [List.pairwise_iff_getElem]
  intro i j hi hj hij
  have := hs i j hij hj
  rw [getElem!_pos l' j hj, getElem!_pos l' i hi] at this
  exact (ltPair_f _ _).1 this
theorem e_sortPair {A : Option Addr} {c : Nat} {l : List Pair} (w : World) (h : (rowR 45 4 enPair (.slice A l.length c) l).p w) (hl : l.length ≤ 1000000) (_ : True) :
    Calls Tryz.prog 106 #[.slice A l.length c, .func (.func 76) #[] #[]] w fun e w' =>
      e = .returned (.tuple #[]) ∧ ∃ l' : List Pair, l'.Perm l ∧ (l'.Pairwise fun x y => ¬ ltP y x) ∧ Upd (rowR 45 4 enPair (.slice A l.length c) l) (rowR 45 4 enPair (.slice A l.length c) l') w w' := by
  cases A with
  | none =>
    have hnil : l = [] := row_nil (rowR_at h elt_Pair.len)
    subst hnil
    have hc := AnyF.slices_SortFunc_none (P := Tryz.prog) (ρ := Tryz.sortSrt_ren) Tryz.sortSrt none c (.func (.func 76) #[] #[]) w
    change Calls Tryz.prog 106 _ _ _ at hc
    have hu : Upd (rowR 45 4 enPair (.slice none ([] : List Pair).length c) []) (rowR 45 4 enPair (.slice none ([] : List Pair).length c) []) w w := ⟨Fr.refl _ _, h, fun b hb => by simp [rowR, Value.ownBlock] at hb⟩
    exact hc.mono fun e w' ⟨he, hw⟩ => by subst hw; exact ⟨he, [], List.Perm.refl _, List.Pairwise.nil, hu⟩
  | some a =>
    obtain ⟨b, ha⟩ : ∃ b, a = ⟨b, 0, none⟩ := by
      rcases (show w.ownsRow 0 45 4 (.slice (some a) l.length c) l.length (flat enPair l) from h).2 with ⟨h', _⟩ | ⟨g', cap, cur, h', _⟩
      · cases h'
      · cases h'; exact ⟨g', rfl⟩
    subst ha
    exact sortPair w h hl
end Go.Proofs.YtfkbjfbbigbacaaGreatDoor.L
