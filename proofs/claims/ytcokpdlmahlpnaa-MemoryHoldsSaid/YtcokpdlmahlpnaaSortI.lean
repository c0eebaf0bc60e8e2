/- The engine: slices.SortFunc at rows of one cell an element, over the kit's contract: a row of one's own is turned to a permutation of it, sorted. -/
import Derived.Test.YtcokpdlmahlpnaaE12
import Derived.Shelf.SlSortCmp.Whole1
namespace Go.Proofs.Ytcokpdlmahlpnaa.L
open Go.RowKit Go.MapKept Go.Maps Go.Shelf Go.Lib Go.Sort

section
variable {P : Program} {ρ : Ren} {α : Type} [Inhabited α] {E : Nat} {en : α → List Value} {enc : α → Value} {w w' : World}
omit [Inhabited α] in
theorem flat_one1 (he : ∀ x, en x = [enc x]) (l : List α) (j : Nat) : (flat en l)[j]? = (l[j]?).map enc := by
  have := flat_get (en := en) (sz := 1) (fun x => by rw [he]; rfl) l j 0 (by omega)
  rw [Nat.mul_one, Nat.add_zero] at this
  rw [this]
  cases l[j]? with
  | none => rfl
  | some x => simp [he]
/-- A row of one's own, of which the cells were turned. -/
theorem row_turned1 (hel : Elt P E 1 en) (he : ∀ x, en x = [enc x]) {b c : Nat} {cur : Array Value} {d : Array α} {w' : World} (hh : w'.heap[b]? = some (.cells (putCells enc 0 d cur) E (0, 0))) (hdc : d.size ≤ c) (hcm : c ≤ maxLen) (hcs : cur.size = c * 1) :
    (rowR E 1 en (.slice (some ⟨b, 0, none⟩) d.size c) d.toList).p w' := by
  refine ⟨by rw [flat_len hel.len], .inr ⟨b, c, putCells enc 0 d cur, by simp, Nat.zero_le _, hh, by simpa using hdc, hcm, by simp [putCells, hcs], ?_⟩⟩
  refine List.ext_getElem? fun q => ?_
  rw [flat_one1 he, List.getElem?_take, Array.getElem?_toList]
  simp only [Array.length_toList, Nat.mul_one]
  by_cases hq : q < d.size
  · rw [if_pos hq]
    simp only [putCells, Array.getElem?_mapIdx]
    rw [Array.getElem?_eq_getElem (by omega)]
    simp only [Option.map_some, Nat.zero_le, Nat.zero_add, true_and, hq, if_true, Nat.sub_zero, Array.getElem?_toList]
    rw [getElem!_pos d q hq, Array.getElem?_eq_getElem hq]; rfl
  · rw [if_neg hq, Array.getElem?_toList, Array.getElem?_eq_none (by omega)]; rfl
theorem row_holds1 {E : Nat} (he : ∀ x, en x = [enc x]) {b : Nat} {cur : Array Value} {l : List α} (hg : w.heap[b]? = some (.cells cur E (0, 0))) (ht : cur.toList.take (l.length * 1) = flat en l) : Holds enc w b 0 l.toArray := fun j hj => by
  have hj' : j < l.length := by simpa using hj
  refine ⟨?_, by rw [Nat.zero_add]; exact blk_free hg j⟩
  rw [blk_cell hg, Nat.zero_add]
  have h1 : (flat en l)[j]? = cur.toList[j]? := by rw [← ht, List.getElem?_take, if_pos (by omega)]
  rw [flat_one1 he] at h1
  rw [← Array.getElem?_toList, ← h1, List.getElem?_eq_getElem hj', getElem!_pos l.toArray j hj]; rfl
/-- slices.SortFunc at a row of one's own. -/
theorem sort_row1 (L : SlLaysF.n6 P ρ) (hel : Elt P E 1 en) (he : ∀ x, en x = [enc x]) (cf : α → α → Int) (hO : SWO (ltOf cf)) (g : Nat) (cb : Array Value)
    (eg : ∀ args w, (callFunc g args).run P w = .ok (.enter g args) w) (hcmp : ∀ (W : World) (x y : α), Calls P g (#[enc x, enc y] ++ cb) W fun e w' => e = .returned (.int .i64 (cf x y)) ∧ ∃ q os', w' = grow (W.drewN q) os')
    {b c : Nat} {l : List α} (w : World) (h : (rowR E 1 en (.slice (some ⟨b, 0, none⟩) l.length c) l).p w) (hl : l.length ≤ 1000000) :
    Calls P (ρ.f 6) #[.slice (some ⟨b, 0, none⟩) l.length c, .func (.func g) #[] cb] w fun e w' =>
      e = .returned (.tuple #[]) ∧ ∃ l', l'.Perm l ∧ (∀ i j, i < j → j < l'.length → ltOf cf l'[j]! l'[i]! = false) ∧ Upd (rowR E 1 en (.slice (some ⟨b, 0, none⟩) l.length c) l) (rowR E 1 en (.slice (some ⟨b, 0, none⟩) l.length c) l') w w' := by
  have hown : w.ownsRow 0 E 1 (.slice (some ⟨b, 0, none⟩) l.length c) l.length (flat en l) := h
  rcases hown.2 with ⟨h', _⟩ | ⟨g', cap, cur, h', hb, hg, hnc, hcm, hcs, htake⟩
  · cases h'
  · cases h'
    have hlt := lt_of_block hg
    have hH := row_holds1 he hg htake
    have h1 : OneCell enc := fun x => hel.one x _ (by rw [he]; simp)
    have hc := Any.slices_SortFunc L enc h1 cf hO g cb b 0 c l.toArray w eg (fun m os dk _ x y => hcmp _ x y) hH hlt (by simp; omega)
    simp only [List.size_toArray] at hc
    refine hc.mono ?_
    rintro e w' ⟨rfl, d', n, os, hp, hs, rfl⟩
    have hds : d'.size = l.length := by simpa using hp.1
    have hheap : (sortWorld enc w b 0 n d' os).heap[b]? = some (.cells (putCells enc 0 d' cur) E (0, 0)) := by
      simp only [sortWorld, grow, putRow, mapBlock, Sort.ahead]
      rw [Array.getElem?_append_left (by simpa using hlt), Array.getElem?_modify, if_pos rfl, hg]; rfl
    have hfr : Fr (· = b) w (sortWorld enc w b 0 n d' os) := by
      refine ⟨rfl, rfl, rfl, by simp [sortWorld, grow, putRow, mapBlock, Sort.ahead], fun i hi hne => ?_⟩
      simp only [sortWorld, grow, putRow, mapBlock, Sort.ahead]
      rw [Array.getElem?_append_left (by simpa using hi), Array.getElem?_modify, if_neg (fun e => hne e.symm)]
    refine ⟨rfl, d'.toList, ?_, fun i j hij hj => ?_, hfr.mono fun i _ e => by subst e; simp [rowR, Value.ownBlock], ?_, fun x hx => ?_⟩
    · have h1 := hp.2.2
      have e1 : d'.extract 0 l.length = d' := by rw [← hds]; exact Array.extract_size
      have e2 : l.toArray.extract 0 l.length = l.toArray := by simp
      rw [e1, e2] at h1
      exact h1
    · have h1 := hs i j (Nat.zero_le _) hij (by simp at hj; omega)
      have e : ∀ k, d'.toList[k]! = d'[k]! := fun k => by
        rcases Nat.lt_or_ge k d'.size with h | h
        · rw [getElem!_pos d'.toList k (by simpa using h), getElem!_pos d' k h]; rfl
        · rw [getElem!_neg d'.toList k (by simpa using h), getElem!_neg d' k (by omega)]
      rw [e, e]; exact h1
    · have := row_turned1 (c := c) hel he hheap (by rw [hds]; simpa using hnc) hcm hcs
      rw [hds] at this; exact this
    · simp [rowR, Value.ownBlock] at hx; subst hx
      exact ⟨.inl (by simp [rowR, Value.ownBlock]), lt_of_block hheap⟩
end
end Go.Proofs.Ytcokpdlmahlpnaa.L
