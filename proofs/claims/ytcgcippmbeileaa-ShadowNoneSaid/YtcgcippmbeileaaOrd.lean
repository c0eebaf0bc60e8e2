/- Rows as arrays; one round of each loop of a sort, as an equation. Plain law. -/
import Derived.Test.YtcgcippmbeileaaE17
import Derived.Sort.AssemblyPlain
namespace Go.Proofs.Ytcgcippmbeileaa.L
open Go.RowKit Go.MapKept Go.Maps

theorem rowR_n {α : Type} {E sz : Nat} {en : α → List Value} {w : World} {A : Option Addr} {n c : Nat} {l : List α} (h : (rowR E sz en (.slice A n c) l).p w) : n = l.length := by
  rcases h.2 with ⟨h1, h2⟩ | ⟨g, cap, cur, h1, -⟩
  · cases h1; exact h2.symm
  · cases h1; rfl
theorem arr_at {l : List Int} {i : Nat} {y : Int} (h : l[i]? = some y) : l.toArray[i]! = y := by
  obtain ⟨hi, e⟩ := List.getElem?_eq_some_iff.1 h
  rw [getElem!_pos l.toArray i (by simpa using hi)]
  simpa using e
theorem arr_swp {l : List Int} {i j : Nat} {x y : Int} (hi : l[i]? = some x) (hj : l[j]? = some y) : ((l.set i y).set j x).toArray = Sort.swp l.toArray i j := by
  unfold Sort.swp
  rw [arr_at hi, arr_at hj]
  simp
theorem set2_len {l : List Int} {i j : Nat} {x y : Int} : ((l.set i y).set j x).length = l.length := by simp
theorem ltI {x y : Int} : Sort.ltInt x y = decide (x < y) := rfl
section ins
variable {a b i j : Nat} {d : List Int} {x y : Int}
theorem insO_end (h : ¬ i < b) : Sort.insOuter Sort.ltInt a b i d.toArray = d.toArray := by rw [Sort.insOuter, if_neg h]
theorem insO_step (h : i < b) : Sort.insOuter Sort.ltInt a b i d.toArray = Sort.insOuter Sort.ltInt a b (i + 1) (Sort.insInner Sort.ltInt a i d.toArray) := by rw [Sort.insOuter, if_pos h]
theorem insI_low (h : ¬ a < j) : Sort.insInner Sort.ltInt a j d.toArray = d.toArray := by
  cases j with
  | zero => rfl
  | succ j => rw [Sort.insInner, if_neg]; simp; omega
theorem insI_end (h : a < j) (hx : d[j]? = some x) (hy : d[j - 1]? = some y) (hn : ¬ x < y) : Sort.insInner Sort.ltInt a j d.toArray = d.toArray := by
  cases j with
  | zero => omega
  | succ j => rw [Nat.add_sub_cancel] at hy; rw [Sort.insInner, arr_at hx, arr_at hy, ltI, if_neg (by simp [hn])]
theorem insI_step (h : a < j) (hx : d[j]? = some x) (hy : d[j - 1]? = some y) (hn : x < y) : Sort.insInner Sort.ltInt a j d.toArray = Sort.insInner Sort.ltInt a (j - 1) ((d.set j y).set (j - 1) x).toArray := by
  cases j with
  | zero => omega
  | succ j => rw [Nat.add_sub_cancel] at hy ⊢; rw [Sort.insInner, arr_at hx, arr_at hy, ltI, if_pos (by simp [hn]; omega), arr_swp hx hy]
end ins
section sift
variable {hi first r : Nat} {d : List Int} {x y z : Int}
theorem sift_end (h : 2 * r + 1 ≥ hi) : Sort.siftDown Sort.ltInt hi first r d.toArray = d.toArray := by rw [Sort.siftDown, dif_pos h]
theorem sift_r_end (h : (2 * r + 1) + 1 < hi) (hx : d[first + (2 * r + 1)]? = some x) (hy : d[(first + (2 * r + 1)) + 1]? = some y) (hxy : x < y) (hz : d[first + r]? = some z) (hn : ¬ z < y) : Sort.siftDown Sort.ltInt hi first r d.toArray = d.toArray := by
  rw [Sort.siftDown, dif_neg (by omega), arr_at hx, arr_at hy, arr_at hz, show first + (2 * r + 2) = (first + (2 * r + 1)) + 1 from rfl, arr_at hy, ltI, ltI, if_pos (by simp [h, hxy]), if_pos (by simp [hn])]
theorem sift_r (h : (2 * r + 1) + 1 < hi) (hx : d[first + (2 * r + 1)]? = some x) (hy : d[(first + (2 * r + 1)) + 1]? = some y) (hxy : x < y) (hz : d[first + r]? = some z) (hn : z < y) (hy2 : d[first + ((2 * r + 1) + 1)]? = some y) : Sort.siftDown Sort.ltInt hi first r d.toArray = Sort.siftDown Sort.ltInt hi first ((2 * r + 1) + 1) ((d.set (first + r) y).set (first + ((2 * r + 1) + 1)) z).toArray := by
  rw [Sort.siftDown, dif_neg (by omega), arr_at hx, arr_at hy, arr_at hz, show first + (2 * r + 2) = (first + (2 * r + 1)) + 1 from rfl, arr_at hy, ltI, ltI, if_pos (by simp [h, hxy]), if_neg (by simp [hn]), dif_pos (by omega)]
  exact congrArg _ (arr_swp hz hy2).symm
theorem sift_l_end (h : ¬ 2 * r + 1 ≥ hi) (hx : d[first + (2 * r + 1)]? = some x) (hxy : ¬ (2 * r + 1) + 1 < hi ∨ ∃ y, d[(first + (2 * r + 1)) + 1]? = some y ∧ ¬ x < y) (hz : d[first + r]? = some z) (hn : ¬ z < x) : Sort.siftDown Sort.ltInt hi first r d.toArray = d.toArray := by
  have hc : ¬ ((decide ((2 * r + 1) + 1 < hi) && Sort.ltInt d.toArray[first + (2 * r + 1)]! d.toArray[first + (2 * r + 1) + 1]!) = true) := by
    rcases hxy with h1 | ⟨y, hy, h1⟩
    · simp [h1]
    · rw [arr_at hx, arr_at hy, ltI]; simp [h1]
  rw [Sort.siftDown, dif_neg h, if_neg hc, arr_at hx, arr_at hz, ltI, if_pos (by simp [hn])]
theorem sift_l (h : ¬ 2 * r + 1 ≥ hi) (hx : d[first + (2 * r + 1)]? = some x) (hxy : ¬ (2 * r + 1) + 1 < hi ∨ ∃ y, d[(first + (2 * r + 1)) + 1]? = some y ∧ ¬ x < y) (hz : d[first + r]? = some z) (hn : z < x) : Sort.siftDown Sort.ltInt hi first r d.toArray = Sort.siftDown Sort.ltInt hi first (2 * r + 1) ((d.set (first + r) x).set (first + (2 * r + 1)) z).toArray := by
  have hc : ¬ ((decide ((2 * r + 1) + 1 < hi) && Sort.ltInt d.toArray[first + (2 * r + 1)]! d.toArray[first + (2 * r + 1) + 1]!) = true) := by
    rcases hxy with h1 | ⟨y, hy, h1⟩
    · simp [h1]
    · rw [arr_at hx, arr_at hy, ltI]; simp [h1]
  rw [Sort.siftDown, dif_neg h, if_neg hc, arr_at hx, arr_at hz, ltI, if_neg (by simp [hn]), arr_swp hz hx]
end sift
section rev
variable {i j : Nat} {d : List Int} {x y : Int}
theorem rev_end (h : ¬ i < j) : Sort.reverseLoop i j d.toArray = d.toArray := by rw [Sort.reverseLoop, if_neg h]
theorem rev_step (h : i < j) (hx : d[i]? = some x) (hy : d[j]? = some y) : Sort.reverseLoop i j d.toArray = Sort.reverseLoop (i + 1) (j - 1) ((d.set i y).set j x).toArray := by rw [Sort.reverseLoop, if_pos h, arr_swp hx hy]
end rev
section scan
variable {i j : Nat} {d : Array Int} {p : Int → Bool}
theorem up_go (h : i ≤ j) (hp : p d[i]! = true) : Sort.scanUp p d j i = Sort.scanUp p d j (i + 1) := by rw [Sort.scanUp, if_pos (by simp [h, hp])]
theorem up_end (h : ¬ i ≤ j ∨ p d[i]! = false) : Sort.scanUp p d j i = i := by rw [Sort.scanUp, if_neg (by rcases h with h | h <;> simp [h])]
theorem down_go (h : i ≤ j) (hi : 1 ≤ i) (hp : p d[j]! = true) : Sort.scanDown p d i j = Sort.scanDown p d i (j - 1) := by
  cases j with
  | zero => omega
  | succ j => rw [Sort.scanDown, if_pos (by simp [h, hp])]; rfl
theorem down_end (h : ¬ i ≤ j ∨ p d[j]! = false) : Sort.scanDown p d i j = j := by
  cases j with
  | zero => rfl
  | succ j => rw [Sort.scanDown, if_neg (by rcases h with h | h <;> simp [h])]
end scan
end Go.Proofs.Ytcgcippmbeileaa.L
