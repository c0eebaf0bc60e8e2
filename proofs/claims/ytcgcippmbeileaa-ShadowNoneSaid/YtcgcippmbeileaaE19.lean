/- The engine: pages of structs: so many elements of some cells each, in one block, as a function of the place. -/
import Derived.Test.YtcgcippmbeileaaE17
import Derived.Test.YtcgcippmbeileaaE10
namespace Go.Proofs.Ytcgcippmbeileaa.L
open Go.RowKit Go.MapKept Go.Maps

/-- The cells of a page: n elements. -/
def pgB {α : Type} (n : Nat) (en : α → List Value) (f : Nat → α) : Array Value := (flat en ((List.range n).map f)).toArray
abbrev PsR {α : Type} (n : Nat) (en : α → List Value) (T : TypeId) (f : Nat → α) (b : Nat) : Res := Cel b (pgB n en f) T
def psSet {α : Type} (f : Nat → α) (i : Nat) (v : α) : Nat → α := fun j => if j = i then v else f j
section
variable {α : Type} {n sz : Nat} {en : α → List Value} {f g : Nat → α}
theorem pgB_size (hl : ∀ x, (en x).length = sz) : (pgB n en f).size = n * sz := by simp [pgB, flat_len hl]
theorem map_set {i : Nat} {v : α} : (List.range n).map (psSet f i v) = ((List.range n).map f).set i v := by
  apply List.ext_getElem?
  intro j
  rw [List.getElem?_set]
  by_cases hj : j < n
  · rw [List.getElem?_map, List.getElem?_range hj]
    by_cases e : i = j
    · subst e; simp [psSet, hj]
    · rw [if_neg e, List.getElem?_map, List.getElem?_range hj]; simp only [Option.map_some, psSet]; rw [if_neg (fun q => e q.symm)]
  · have h1 : ((List.range n).map (psSet f i v))[j]? = none := List.getElem?_eq_none (by simp; omega)
    have h2 : ((List.range n).map f)[j]? = none := List.getElem?_eq_none (by simp; omega)
    rw [h1, h2]
    by_cases e : i = j
    · subst e; simp [hj]
    · rw [if_neg e]
theorem pgB_put (hl : ∀ x, (en x).length = sz) (hs : 0 < sz) {i : Nat} {v : α} (h : i < n) : putC (pgB n en f) (i * sz) (en v) = pgB n en (psSet f i v) := by
  have hle : i * sz + sz ≤ n * sz := by have := Nat.mul_le_mul_right sz (show i + 1 ≤ n from h); rw [Nat.add_mul, Nat.one_mul] at this; exact this
  apply Array.ext_getElem?
  intro k
  rw [putCg, pgB_size hl, hl]
  have e1 : (pgB n en (psSet f i v))[k]? = (flat en (((List.range n).map f).set i v))[k]? := by unfold pgB; rw [map_set]; simp
  rw [e1, flat_set hl hs _ _ _ (by simpa using h)]
  by_cases q : i * sz ≤ k ∧ k < i * sz + sz
  · rw [if_pos q, if_pos ⟨q.1, q.2, by omega⟩]
  · rw [if_neg q, if_neg (fun r => q ⟨r.1, r.2.1⟩)]; unfold pgB; simp
theorem pgB_row (hl : ∀ x, (en x).length = sz) {i : Nat} (h : i < n) : (pgB n en f).extract (i * sz) (i * sz + sz) = (en (f i)).toArray := by
  have hle : i * sz + sz ≤ n * sz := by have := Nat.mul_le_mul_right sz (show i + 1 ≤ n from h); rw [Nat.add_mul, Nat.one_mul] at this; exact this
  apply Array.ext_getElem?
  intro j
  rw [Array.getElem?_extract]
  by_cases hj : j < sz
  · rw [if_pos (by rw [pgB_size hl]; omega)]
    unfold pgB
    rw [List.getElem?_toArray, flat_get hl _ i j hj, List.getElem?_map, List.getElem?_range h]; simp
  · rw [if_neg (by rw [pgB_size hl]; omega), List.getElem?_toArray, List.getElem?_eq_none (by rw [hl]; omega)]
theorem pgB_toList : (pgB n en f).toList = flat en ((List.range n).map f) := by simp [pgB]
theorem pgB_all (hl : ∀ x, (en x).length = sz) : putC (pgB n en g) 0 (pgB n en f).toList = pgB n en f := by
  apply Array.ext_getElem?
  intro i
  rw [putCg, pgB_size hl]
  by_cases q : i < n * sz
  · rw [if_pos ⟨Nat.zero_le _, by rw [pgB_toList, flat_len hl]; simpa using q, q⟩, Nat.sub_zero, Array.getElem?_toList]
  · rw [if_neg (by omega), Array.getElem?_eq_none (by rw [pgB_size hl]; omega), Array.getElem?_eq_none (by rw [pgB_size hl]; omega)]
theorem pgB_one (h1 : ∀ x, ∀ u ∈ en x, u.oneCell' = true) : (pgB n en f).toList.all (·.oneCell') = true := by
  rw [pgB_toList, List.all_eq_true]
  intro u hu
  obtain ⟨x, -, hx⟩ := List.mem_flatMap.1 hu
  exact h1 x u hx
theorem pgB_ext (h : ∀ i, i < n → f i = g i) : pgB n en f = pgB n en g := by
  unfold pgB
  congr 2
  exact List.map_congr_left fun i hi => h i (List.mem_range.1 hi)
/-- Two pages are one, told as a test. -/
def psEq [DecidableEq α] (n : Nat) (f g : Nat → α) : Bool := (List.range n).all fun i => decide (f i = g i)
theorem psEq_iff [DecidableEq α] : psEq n f g = true ↔ ∀ i, i < n → f i = g i := by unfold psEq; simp
end

section
variable {P : Program} {ρ : Operand → Value} {d : Option Tmp} {ty : TypeId} {pos : String} {aft : Array Edge} {gd : Option (Nat × Bool)} {α : Type} {n sz : Nat} {en : α → List Value} {f g : Nat → α} {w0 w : World} {S : Nat → Prop} {H G : List Res} {Φ : Value → World → Prop}
theorem ldv_elem {t : TypeId} {i : Nat} {F : Array Field} (hl : ∀ x, (en x).length = sz) (hu : P.underlying t = some (.struct F)) (hs : (P.info? t).map (·.size) = some sz) (h : i < n) : ldv P t (pgB n en f) (i * sz) = some (.agg (en (f i)).toArray) := by
  have hle : i * sz + sz ≤ n * sz := by have := Nat.mul_le_mul_right sz (show i + 1 ≤ n from h); rw [Nat.add_mul, Nat.one_mul] at this; exact this
  unfold ldv; rw [hu, hs]
  simp only []
  rw [if_pos (by rw [pgB_size hl]; exact hle), pgB_row hl h]
theorem ldv_pageB {t e : TypeId} (hl : ∀ x, (en x).length = sz) (hu : P.underlying t = some (.array n e)) (hs : (P.info? t).map (·.size) = some (n * sz)) : ldv P t (pgB n en f) 0 = some (.agg (pgB n en f)) := by
  unfold ldv; rw [hu, hs]
  simp only [Nat.zero_add]
  rw [if_pos (by rw [pgB_size hl]; omega)]
  have h := Array.extract_size (xs := pgB n en f)
  rw [pgB_size hl] at h
  rw [h]
theorem run_pageB_eq [DecidableEq α] (hl : ∀ x, (en x).length = sz) (hd : Nat) {t e : TypeId} {F : Array Field} (ht : P.underlying t = some (.array n e)) (hi : P.underlying e = some (.struct F)) (hsz : ∀ w, (sizeOf e).run P w = .ok sz w)
    (he : ∀ (a b : α) (w : World), (Op.equalIn (hd + 1) e (.agg (en a).toArray) (.agg (en b).toArray)).run P w = .ok (decide (a = b)) w) (w : World) :
    (Op.equalIn (hd + 2) t (.agg (pgB n en f)) (.agg (pgB n en g))).run P w = .ok (psEq n f g) w := by
  unfold psEq
  rw [List.range_eq_range', Op.equalIn]
  simp only [Sem.run_bind, run_underlying ht, Result.andThen_ok, hsz, Std.Legacy.Range.forIn_eq_forIn_range', Std.Legacy.Range.size, Nat.sub_zero, Nat.add_sub_cancel, Nat.div_one]
  have hlt : ∀ i ∈ List.range' 0 n 1, i < n := fun i hi => by simpa using (List.mem_range'_1.1 hi).2
  generalize List.range' 0 n 1 = l at hlt ⊢
  induction l with
  | nil => simp
  | cons i l ih =>
    have hin : i < n := hlt i (by simp)
    have px : ∀ f : Nat → α, (part e (pgB n en f) (i * sz)).run P w = .ok (.agg (en (f i)).toArray) w := fun f => by
      simp [part, isAgg, run_underlying hi, hsz, pgB_row hl hin]
    simp only [List.forIn_cons, Sem.run_bind, px, he, Result.andThen_ok, List.all_cons]
    cases hb : decide (f i = g i)
    · simp
    · simp only [Bool.not_true, Bool.false_eq_true, if_false, Sem.run_pure, Result.andThen_ok, Bool.true_and]
      exact ih fun j hj => hlt j (by simp [hj])
/-- One element of a page is stored to. -/
theorem Runs.storePs {t : TypeId} {x y : Operand} {b j : Nat} {u : Value} {v : α} (hl : ∀ x, (en x).length = sz) (hs : 0 < sz) (h1 : ∀ x, ∀ u ∈ en x, u.oneCell' = true) (hx : ρ x = .pointer (some ⟨b, 0 + j * sz, none⟩)) (hy : ρ y = u) (hu : u.cells.toList = en v) (hsz : (P.info? t).map (·.size) = some sz) (hj : j < n)
    (hW : Ws w0 S H G w) (i : Nat) {T : TypeId} (hi : H[i]? = some (PsR n en T f b)) {H' : List Res} (hH : H.set i (PsR n en T (psSet f j v) b) = H') (next : ∀ w', Ws w0 S H' G w' → Φ undef w') : Runs P ρ ⟨d, .store t x y, ty, pos, aft, gd⟩ w Φ := by
  have hle : j * sz + sz ≤ n * sz := by have := Nat.mul_le_mul_right sz (show j + 1 ≤ n from hj); rw [Nat.add_mul, Nat.one_mul] at this; exact this
  exact Runs.store (v := u) (cs' := pgB n en (psSet f j v)) (j := j * sz) (n := sz) (hx.trans (by rw [Nat.zero_add])) hy hsz (by have := congrArg List.length hu; rw [hl] at this; simpa using this) (by rw [hu, List.all_eq_true]; exact h1 v) hW i hi (by rw [pgB_size hl]; exact hle) (by rw [hu]; exact pgB_put hl hs hj) hH next
theorem Runs.storePsAll {t : TypeId} {x y : Operand} {b : Nat} (hl : ∀ x, (en x).length = sz) (h1 : ∀ x, ∀ u ∈ en x, u.oneCell' = true) (hx : ρ x = .pointer (some ⟨b, 0, none⟩)) (hy : ρ y = .agg (pgB n en f)) (hsz : (P.info? t).map (·.size) = some (n * sz))
    (hW : Ws w0 S H G w) (i : Nat) {T : TypeId} (hi : H[i]? = some (PsR n en T g b)) {H' : List Res} (hH : H.set i (PsR n en T f b) = H') (next : ∀ w', Ws w0 S H' G w' → Φ undef w') : Runs P ρ ⟨d, .store t x y, ty, pos, aft, gd⟩ w Φ :=
  Runs.store (v := .agg (pgB n en f)) (cs' := pgB n en f) hx hy hsz (pgB_size hl) (pgB_one h1) hW i hi (by rw [pgB_size hl]; omega) (pgB_all hl) hH next
end
end Go.Proofs.Ytcgcippmbeileaa.L
