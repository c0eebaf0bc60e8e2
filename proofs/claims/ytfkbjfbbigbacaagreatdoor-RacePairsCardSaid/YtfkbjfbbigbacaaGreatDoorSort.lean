/- The engine: slices.SortFunc at rows of structs, over the kit's contract: a row of one's own is turned to a permutation of it, sorted. -/
import Derived.Test.YtfkbjfbbigbacaaGreatDoorE10
import Derived.Shelf.SlSortCmp.WholeK
namespace Go.Proofs.YtfkbjfbbigbacaaGreatDoor.L
open Go.RowKit Go.MapKept Go.Maps Go.Shelf Go.Lib Go.Sort

section
variable {P : Program} {ρ : Ren} {α : Type} [Inhabited α] {E sz : Nat} {en : α → List Value} {w w' : World}
theorem flatK_flat (hlen : ∀ x, (en x).length = sz) (hs : 0 < sz) (l : List α) : (Go.Sort.flatK en sz l.toArray).toList = flat en l := by
  refine List.ext_getElem? fun i => ?_
  obtain ⟨q, r, rfl, hr⟩ : ∃ q r, i = q * sz + r ∧ r < sz := ⟨i / sz, i % sz, by rw [Nat.mul_comm, Nat.div_add_mod], Nat.mod_lt _ hs⟩
  rw [flat_get hlen _ _ _ hr, Array.getElem?_toList]
  by_cases hq : q < l.length
  · have hlt : q * sz + r < l.toArray.size * sz := by
      have := Nat.mul_le_mul_right sz (show q + 1 ≤ l.length from hq); rw [Nat.add_mul] at this; simp; omega
    have h1 := Go.Sort.get_flatK en sz l.toArray (q * sz + r) hlt
    have hd : (q * sz + r) / sz = q := by rw [Nat.mul_comm, Nat.mul_add_div hs, Nat.div_eq_of_lt hr, Nat.add_zero]
    have hm : (q * sz + r) % sz = r := by rw [Nat.mul_comm, Nat.mul_add_mod, Nat.mod_eq_of_lt hr]
    rw [hd, hm] at h1
    have hsz : q * sz + r < (Go.Sort.flatK en sz l.toArray).size := by rw [size_flatK]; exact hlt
    rw [Array.getElem?_eq_getElem hsz, ← getElem!_pos (Go.Sort.flatK en sz l.toArray) _ hsz, h1, List.getElem?_eq_getElem hq]
    have e1 : l.toArray[q]! = l[q] := by rw [getElem!_pos l.toArray q (by simpa using hq)]; simp
    rw [e1]
    simp only [Option.bind_some]
    rw [List.getElem?_eq_getElem (by rw [hlen]; exact hr), getElem!_pos (en l[q]) r (by rw [hlen]; exact hr)]
  · rw [List.getElem?_eq_none (by omega)]
    have : l.length * sz ≤ q * sz := Nat.mul_le_mul_right sz (by omega)
    rw [Array.getElem?_eq_none (by rw [size_flatK]; simp; omega)]; rfl

/-- slices.SortFunc at a row of one's own. -/
theorem sort_row (L : SlLaysF0.n6 P ρ) (hel : Elt P E sz en) (aE : ∀ w, (isAgg (ρ.t 24)).run P w = .ok true w) (zE : ∀ w, (Go.sizeOf (ρ.t 24)).run P w = .ok sz w) (cf : α → α → Int) (hO : SWO (ltOf cf)) (g : Nat) (cb : Array Value)
    (eg : ∀ args w, (callFunc g args).run P w = .ok (.enter g args) w) (hcmp : ∀ (W : World) (x y : α), Calls P g (#[.agg (en x).toArray, .agg (en y).toArray] ++ cb) W fun e w' => e = .returned (.int .i64 (cf x y)) ∧ ∃ q os', w' = grow (W.drewN q) os')
    {b c : Nat} {l : List α} (w : World) (h : (rowR E sz en (.slice (some ⟨b, 0, none⟩) l.length c) l).p w) (hl : l.length ≤ 1000000) :
    Calls P (ρ.f 6) #[.slice (some ⟨b, 0, none⟩) l.length c, .func (.func g) #[] cb] w fun e w' =>
      e = .returned (.tuple #[]) ∧ ∃ l', l'.Perm l ∧ (∀ i j, i < j → j < l'.length → ltOf cf l'[j]! l'[i]! = false) ∧ Upd (rowR E sz en (.slice (some ⟨b, 0, none⟩) l.length c) l) (rowR E sz en (.slice (some ⟨b, 0, none⟩) l.length c) l') w w' := by
  have hown : w.ownsRow 0 E sz (.slice (some ⟨b, 0, none⟩) l.length c) l.length (flat en l) := h
  rcases hown.2 with ⟨h', _⟩ | ⟨g', cap, cur, h', hb, hg, hnc, hcm, hcs, htake⟩
  · cases h'
  · cases h'
    have hlt := lt_of_block hg
    have hcell : ∀ (l : List α) (W : World) (cs : Array Value), W.heap[b]? = some (.cells cs E (0, 0)) → cs.toList.take (l.length * sz) = flat en l → HoldsK en sz W b 0 l.toArray := fun l W cs hW ht j hj => by
      refine ⟨?_, by rw [Nat.zero_add]; exact blk_free hW j⟩
      rw [blk_cell hW, Nat.zero_add, id]
      have h1 : (Go.Sort.flatK en sz l.toArray).toList[j]? = cs.toList[j]? := by
        rw [flatK_flat hel.len hel.pos, ← ht, List.getElem?_take, if_pos (by rw [size_flatK] at hj; simpa using hj)]
      rw [Array.getElem?_toList, Array.getElem?_toList] at h1
      rw [← h1, Array.getElem?_eq_getElem hj, getElem!_pos (Go.Sort.flatK en sz l.toArray) j hj]
    have hH := hcell l w cur hg htake
    have hc := AnyQ.slices_SortFunc L sz aE zE en hel.len hel.one cf hO g cb b 0 c l.toArray w eg (fun m os dk _ x y => hcmp _ x y) hH hlt (by simp; omega)
    simp only [List.size_toArray] at hc
    refine hc.mono ?_
    rintro e w' ⟨rfl, d', n, os, hp, hs, rfl⟩
    have hds : d'.size = l.length := by simpa using hp.1
    have hheap : (sortWorldK en sz w b 0 n d' os).heap[b]? = some (.cells (putCells id 0 (Go.Sort.flatK en sz d') cur) E (0, 0)) := by
      simp only [sortWorldK, grow, putRowK, putRow, mapBlock, Sort.ahead]
      rw [Array.getElem?_append_left (by simpa using hlt), Array.getElem?_modify, if_pos rfl, hg]; rfl
    have hfr : Fr (· = b) w (sortWorldK en sz w b 0 n d' os) := by
      refine ⟨rfl, rfl, rfl, by simp [sortWorldK, grow, putRowK, putRow, mapBlock, Sort.ahead], fun i hi hne => ?_⟩
      simp only [sortWorldK, grow, putRowK, putRow, mapBlock, Sort.ahead]
      rw [Array.getElem?_append_left (by simpa using hi), Array.getElem?_modify, if_neg (fun e => hne e.symm)]
    refine ⟨rfl, d'.toList, ?_, fun i j hij hj => ?_, hfr.mono fun i _ e => by subst e; simp [rowR, Value.ownBlock], ?_, fun x hx => ?_⟩
    · have h1 := hp.2.2
      have e1 : d'.extract 0 l.length = d' := by rw [← hds]; exact Array.extract_size
      have e2 : l.toArray.extract 0 l.length = l.toArray := by simp
      rw [e1, e2] at h1
      exact h1
    · have h1 := hs i j (Nat.zero_le _) hij (by simp at hj; omega)
      have e : ∀ k, d'.toList[k]! = d'[k]! := fun k => by
        rcases Nat.lt_or_ge k d'.size with h | h
        · rw [getElem!_pos d'.toList k (by simpa using h), getElem!_pos d' k h]; rfl
        · rw [getElem!_neg d'.toList k (by simpa using h), getElem!_neg d' k (by omega)]
      rw [e, e]; exact h1
    · refine ⟨by rw [flat_len hel.len], .inr ⟨b, c, putCells id 0 (Go.Sort.flatK en sz d') cur, by simp [hds], Nat.zero_le _, hheap, by simpa [hds] using hnc, hcm, by simp [putCells, hcs], ?_⟩⟩
      rw [← flatK_flat hel.len hel.pos d'.toList]
      refine List.ext_getElem? fun q => ?_
      have hfs : (Go.Sort.flatK en sz d').size = l.length * sz := by rw [size_flatK, hds]
      rw [List.getElem?_take, Array.getElem?_toList, Array.getElem?_toList, Array.length_toList, hds, Array.toArray_toList]
      have hcur : l.length * sz ≤ cur.size := by rw [hcs]; exact Nat.mul_le_mul_right sz hnc
      by_cases hq : q < l.length * sz
      · rw [if_pos hq]
        simp only [putCells, Array.getElem?_mapIdx]
        rw [Array.getElem?_eq_getElem (by omega), Array.getElem?_eq_getElem (by omega)]
        simp only [Option.map_some, Nat.zero_le, Nat.zero_add, true_and, hfs, hq, if_true, Nat.sub_zero, id]
        rw [getElem!_pos (Go.Sort.flatK en sz d') q (by omega)]
      · rw [if_neg hq, Array.getElem?_eq_none (by omega)]
    · simp [rowR, Value.ownBlock] at hx; subst hx
      exact ⟨.inl (by simp [rowR, Value.ownBlock]), lt_of_block hheap⟩
end
end Go.Proofs.YtfkbjfbbigbacaaGreatDoor.L
