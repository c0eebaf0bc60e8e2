/- A package's own sorted, at words. -/
import Derived.Test.YtcokpdlmahlpnaaT3
import Derived.Test.YtcokpdlmahlpnaaSortI
import Derived.Test.YtcokpdlmahlpnaaLay
import Derived.Shelf.SlSortCmp.NoneTotal
namespace Go.Proofs.Ytcokpdlmahlpnaa.L
open Go.RowKit Go.MapKept Go.Maps Go.Shelf Go.Lib Go.Sort

abbrev IntB : Type := { x : Int // 0 ≤ x ∧ x ≤ 4294967295 }
instance : Inhabited IntB := ⟨⟨0, by decide⟩⟩
def encIB (x : IntB) : Value := .int .u32 x.1
def enIB (x : IntB) : List Value := [.int .u32 x.1]
theorem elt_IB : Elt Try.prog 28 1 enIB := ⟨elt_U4.info, elt_U4.pos, fun x => elt_U4.len x.1, fun x => elt_U4.one x.1⟩
def cfIB (x y : IntB) : Int := if x.1 < y.1 then -1 else 1
theorem ltIB (x y : IntB) : ltOf cfIB x y = decide (x.1 < y.1) := by
  unfold ltOf cfIB
  by_cases h : x.1 < y.1
  · rw [if_pos h]; simp [h]
  · rw [if_neg h]; simp [h]
theorem swoIB : SWO (ltOf cfIB) where
  irrefl x := by rw [ltIB]; simp
  trans x y z h1 h2 := by rw [ltIB] at *; simp only [decide_eq_true_eq] at *; omega
  ntrans x y z h1 h2 := by rw [ltIB] at *; simp only [decide_eq_false_iff_not] at *; omega
theorem row_bound {c b : Nat} {l : List Int} {w : World} (h : (rowR 28 1 enU4 (.slice (some ⟨b, 0, none⟩) l.length c) l).p w) (hb : ∀ x ∈ l, 0 ≤ x ∧ x ≤ 4294967295) : ∃ lB : List IntB, l = lB.map (·.1) ∧ (rowR 28 1 enIB (.slice (some ⟨b, 0, none⟩) lB.length c) lB).p w := by
  obtain ⟨lB, rfl⟩ : ∃ lB : List IntB, l = lB.map (·.1) := ⟨l.pmap (fun x h => (⟨x, h⟩ : IntB)) hb, by rw [List.map_pmap]; simp⟩
  have hflat : flat enIB lB = flat enU4 (lB.map (·.1)) := by simp only [flat, List.flatMap_map]; rfl
  refine ⟨lB, rfl, ?_⟩
  simpa only [rowR, hflat, List.length_map] using h
theorem row_unbound {c b n : Nat} {lB : List IntB} {w : World} (h : (rowR 28 1 enIB (.slice (some ⟨b, 0, none⟩) n c) lB).p w) : (rowR 28 1 enU4 (.slice (some ⟨b, 0, none⟩) n c) (lB.map (·.1))).p w := by
  have hflat : flat enIB lB = flat enU4 (lB.map (·.1)) := by simp only [flat, List.flatMap_map]; rfl
  simpa only [rowR, hflat, List.length_map] using h
theorem cmpIB0 (W : World) (x y : IntB) : Calls Try.prog 52 #[encIB x, encIB y] W fun e w' => e = .returned (.int .i64 (cfIB x y)) ∧ ∃ q os', w' = grow (W.drewN q) os' := by
  obtain ⟨x, hx⟩ := x
  obtain ⟨y, hy⟩ := y
  simp only [encIB, cfIB] at hx hy ⊢
  go_enter Try.func52, Try.ntmps52
  go_wp2
  all_goals
    go_ret
    exact ⟨rfl, 0, #[], by rw [grow_empty]; rfl⟩
theorem sortIB0 {b c : Nat} {l : List Int} (w : World) (h : (rowR 28 1 enU4 (.slice (some ⟨b, 0, none⟩) l.length c) l).p w) (hl : l.length ≤ 100000) (hb : ∀ x ∈ l, 0 ≤ x ∧ x ≤ 4294967295) :
    Calls Try.prog 56 #[.slice (some ⟨b, 0, none⟩) l.length c, .func (.func 52) #[] #[]] w fun e w' =>
      e = .returned (.tuple #[]) ∧ ∃ l' : List Int, l'.Perm l ∧ (l'.Pairwise fun x y => x ≤ y) ∧ Upd (rowR 28 1 enU4 (.slice (some ⟨b, 0, none⟩) l.length c) l) (rowR 28 1 enU4 (.slice (some ⟨b, 0, none⟩) l.length c) l') w w' := by
  obtain ⟨lB, rfl, hB⟩ := row_bound h hb
  rw [List.length_map] at hl ⊢
  have hc := sort_row1 (P := Try.prog) (ρ := Try.sortI_ren) Try.sortI elt_IB (enc := encIB) (fun _ => rfl) cfIB swoIB 52 #[] (enters_of Try.func52 (by kernel_rfl) rfl) cmpIB0 w hB (by omega)
  change Calls Try.prog 56 _ _ _ at hc
  refine hc.mono ?_
  rintro e w' ⟨rfl, l', hp, hs, hu⟩
  refine ⟨rfl, l'.map (·.1), hp.map _, ?_, hu.1, row_unbound hu.2.1, hu.2.2⟩
  rw [List.pairwise_map, List.pairwise_iff_getElem]
  intro i j hi hj hij
  have := hs i j hij hj
  rw [getElem!_pos l' j hj, getElem!_pos l' i hi] at this
  rw [ltIB] at this
  simp only [decide_eq_false_iff_not] at this
  omega
/-- The package's own sorted. -/
theorem e_sorted0 {A : Option Addr} {c : Nat} {l : List Int} (w : World) (h : (rowR 28 1 enU4 (.slice A l.length c) l).p w) (hl : l.length ≤ 100000) (hb : ∀ x ∈ l, 0 ≤ x ∧ x ≤ 4294967295) :
    Calls Try.prog 49 #[.slice A l.length c, .func (.func 52) #[] #[]] w fun e w' =>
      e = .returned (.slice A l.length c) ∧ ∃ l' : List Int, l'.Perm l ∧ (l'.Pairwise fun x y => x ≤ y) ∧ Upd (rowR 28 1 enU4 (.slice A l.length c) l) (rowR 28 1 enU4 (.slice A l.length c) l') w w' := by
  cases A with
  | none =>
    have hnil : l = [] := row_nil (rowR_at h elt_U4.len)
    subst hnil
    have hc := AnyF.slices_SortFunc_none (P := Try.prog) (ρ := Try.sortI0_ren) Try.sortI0 none c (.func (.func 52) #[] #[]) w
    change Calls Try.prog 56 _ _ _ at hc
    have hu : Upd (rowR 28 1 enU4 (.slice none ([] : List Int).length c) []) (rowR 28 1 enU4 (.slice none ([] : List Int).length c) []) w w := ⟨Fr.refl _ _, h, fun b hb => by simp [rowR, Value.ownBlock] at hb⟩
    clear h hb hl
    go_enter Try.func49, Try.ntmps49
    go_wp2_with (go_at_call 56; refine hc.mono ?_; rintro e w' ⟨rfl, rfl⟩)
    go_ret
    exact ⟨rfl, [], List.Perm.refl _, List.Pairwise.nil, hu⟩
  | some a =>
    obtain ⟨b, off, ha⟩ : ∃ b, ∃ _ : Unit, a = ⟨b, 0, none⟩ := by
      rcases (show w.ownsRow 0 28 1 (.slice (some a) l.length c) l.length (flat enU4 l) from h).2 with ⟨h', _⟩ | ⟨g', cap, cur, h', _⟩
      · cases h'
      · cases h'; exact ⟨g', (), rfl⟩
    subst ha
    have hc := sortIB0 w h hl hb
    generalize hR : (fun w' => ∃ l' : List Int, l'.Perm l ∧ (l'.Pairwise fun x y => x ≤ y) ∧ Upd (rowR 28 1 enU4 (.slice (some ⟨b, 0, none⟩) l.length c) l) (rowR 28 1 enU4 (.slice (some ⟨b, 0, none⟩) l.length c) l') w w') = R
    have hc' : Calls Try.prog 56 #[.slice (some ⟨b, 0, none⟩) l.length c, .func (.func 52) #[] #[]] w fun e w' => e = .returned (.tuple #[]) ∧ R w' := by rw [← hR]; exact hc
    have hR' : ∀ w', R w' → _ := fun w' hw' => by rw [← hR] at hw'; exact hw'
    refine Calls.mono (R := fun e w' => e = .returned (.slice (some ⟨b, 0, none⟩) l.length c) ∧ R w') ?_ (fun e w' hw' => ⟨hw'.1, hR' w' hw'.2⟩)
    clear hc hR' hR h hb
    generalize l.length = n at *
    go_enter Try.func49, Try.ntmps49
    go_wp2_with (go_at_call 56; refine hc'.mono ?_; rintro e w' ⟨rfl, hr⟩)
    go_ret
    exact ⟨rfl, hr⟩
end Go.Proofs.Ytcokpdlmahlpnaa.L
