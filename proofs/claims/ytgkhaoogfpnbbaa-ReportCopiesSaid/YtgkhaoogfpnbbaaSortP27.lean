/- Layer 7: pairs sorted. -/
import Derived.Test.YtgkhaoogfpnbbaaT7
import Derived.Test.YtgkhaoogfpnbbaaSort
import Derived.Test.YtgkhaoogfpnbbaaCmp27
import Derived.Test.YtgkhaoogfpnbbaaLay
import Derived.Shelf.SlSortCmp.NoneTotal
namespace Go.Proofs.Ytgkhaoogfpnbbaa.L
open Go.RowKit Go.MapKept Go.Maps Go.Shelf Go.Lib Go.Sort

instance : Inhabited Pair := ⟨⟨⟨0, 0⟩, ⟨0, 0⟩⟩⟩
theorem cmpI_neg {x y : Int} : cmpI x y < 0 ↔ x < y := by unfold cmpI; repeat' split <;> omega
theorem cmpI_zero {x y : Int} : cmpI x y = 0 ↔ x = y := by unfold cmpI; repeat' split <;> omega
theorem orI_neg {a b : Int} : orI a b < 0 ↔ a < 0 ∨ (a = 0 ∧ b < 0) := by unfold orI; split <;> omega
theorem orI_zero {a b : Int} : orI a b = 0 ↔ a = 0 ∧ b = 0 := by unfold orI; split <;> omega
theorem ltPair (x y : Pair) : ltOf cfPair x y = true ↔ (x.a.f < y.a.f ∨ (x.a.f = y.a.f ∧ x.a.pc < y.a.pc)) ∨ ((x.a.f = y.a.f ∧ x.a.pc = y.a.pc) ∧ (x.b.f < y.b.f ∨ (x.b.f = y.b.f ∧ x.b.pc < y.b.pc))) := by
  simp only [ltOf, cfPair, Site.cmp, decide_eq_true_eq, orI_neg, orI_zero, cmpI_neg, cmpI_zero]
theorem ltPair_f (x y : Pair) : ltOf cfPair x y = false ↔ ¬ ((x.a.f < y.a.f ∨ (x.a.f = y.a.f ∧ x.a.pc < y.a.pc)) ∨ ((x.a.f = y.a.f ∧ x.a.pc = y.a.pc) ∧ (x.b.f < y.b.f ∨ (x.b.f = y.b.f ∧ x.b.pc < y.b.pc)))) := by
  rw [← ltPair]; simp
theorem swoPair : SWO (ltOf cfPair) where
  irrefl x := by rw [ltPair_f]; omega
  trans x y z h1 h2 := by rw [ltPair] at *; omega
  ntrans x y z h1 h2 := by rw [ltPair_f] at *; omega
theorem sortPair {b c : Nat} {l : List Pair} (w : World) (h : (rowR 54 4 enPair (.slice (some ⟨b, 0, none⟩) l.length c) l).p w) (hl : l.length ≤ 1000000) :
    Calls Try.prog 67 #[.slice (some ⟨b, 0, none⟩) l.length c, .func (.func 60) #[] #[]] w fun e w' =>
      e = .returned (.tuple #[]) ∧ ∃ l' : List Pair, l'.Perm l ∧ Upd (rowR 54 4 enPair (.slice (some ⟨b, 0, none⟩) l.length c) l) (rowR 54 4 enPair (.slice (some ⟨b, 0, none⟩) l.length c) l') w w' := by
  have hc := sort_row (P := Try.prog) (ρ := Try.sortSrt_ren) Try.sortSrt elt_Pair (fun w => by kernel_rfl) (fun w => by kernel_rfl) cfPair swoPair 60 #[] (enters_of Try.func60 (by kernel_rfl) rfl) cmpPair w h hl
  change Calls Try.prog 67 _ _ _ at hc
  exact hc.mono fun e w' ⟨he, l', hp, _, hu⟩ => ⟨he, l', hp, hu⟩
theorem e_sortPair {A : Option Addr} {c : Nat} {l : List Pair} (w : World) (h : (rowR 54 4 enPair (.slice A l.length c) l).p w) (hl : l.length ≤ 1000000) (_ : True) :
    Calls Try.prog 67 #[.slice A l.length c, .func (.func 60) #[] #[]] w fun e w' =>
      e = .returned (.tuple #[]) ∧ ∃ l' : List Pair, l'.Perm l ∧ Upd (rowR 54 4 enPair (.slice A l.length c) l) (rowR 54 4 enPair (.slice A l.length c) l') w w' := by
  cases A with
  | none =>
    have hnil : l = [] := row_nil (rowR_at h elt_Pair.len)
    subst hnil
    have hc := AnyF.slices_SortFunc_none (P := Try.prog) (ρ := Try.sortSrt_ren) Try.sortSrt none c (.func (.func 60) #[] #[]) w
    change Calls Try.prog 67 _ _ _ at hc
    have hu : Upd (rowR 54 4 enPair (.slice none ([] : List Pair).length c) []) (rowR 54 4 enPair (.slice none ([] : List Pair).length c) []) w w := ⟨Fr.refl _ _, h, fun b hb => by simp [rowR, Value.ownBlock] at hb⟩
    exact hc.mono fun e w' ⟨he, hw⟩ => by subst hw; exact ⟨he, [], List.Perm.refl _, hu⟩
  | some a =>
    obtain ⟨b, ha⟩ : ∃ b, a = ⟨b, 0, none⟩ := by
      rcases (show w.ownsRow 0 54 4 (.slice (some a) l.length c) l.length (flat enPair l) from h).2 with ⟨h', _⟩ | ⟨g', cap, cur, h', _⟩
      · cases h'
      · cases h'; exact ⟨g', rfl⟩
    subst ha
    exact sortPair w h hl
end Go.Proofs.Ytgkhaoogfpnbbaa.L
