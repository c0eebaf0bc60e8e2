/- The engine: arrays too long to be told cell by cell: pages of one number an element, as functions of the place. -/
import Derived.Test.YtefmglgejjaipaaGreatDoorE16
namespace Go.Proofs.YtefmglgejjaipaaGreatDoor.L
open Go.RowKit Go.MapKept Go.Maps

/-- The cells of a page: n numbers. -/
def pgA (k : IntKind) (n : Nat) (f : Nat → Int) : Array Value := ((List.range n).map fun i => Value.int k (f i)).toArray
/-- A page in its place. -/
abbrev PgR (k : IntKind) (n : Nat) (T : TypeId) (f : Nat → Int) (b : Nat) : Res := Cel b (pgA k n f) T
/-- A page of which one number is another. -/
def pgSet (f : Nat → Int) (i : Nat) (v : Int) : Nat → Int := fun j => if j = i then v else f j
section
variable {k : IntKind} {n : Nat} {f g : Nat → Int}
theorem pgA_size : (pgA k n f).size = n := by simp [pgA]
theorem pgA_get {i : Nat} (h : i < n) : (pgA k n f)[i]? = some (.int k (f i)) := by simp [pgA, h]
theorem pgA_toList : (pgA k n f).toList = (List.range n).map fun i => Value.int k (f i) := by simp [pgA]
theorem pgA_put {i : Nat} {v : Int} (h : i < n) : putC (pgA k n f) i [.int k v] = pgA k n (pgSet f i v) := by
  show (pgA k n f).setIfInBounds i (.int k v) = _
  apply Array.ext_getElem?
  intro j
  rw [Array.getElem?_setIfInBounds]
  by_cases e : i = j
  · subst e
    rw [if_pos rfl, if_pos (by rw [pgA_size]; exact h), pgA_get h]; simp [pgSet]
  · rw [if_neg e]
    by_cases q : j < n
    · rw [pgA_get q, pgA_get q]; simp only [pgSet]; rw [if_neg (fun e' => e e'.symm)]
    · rw [Array.getElem?_eq_none (by rw [pgA_size]; omega), Array.getElem?_eq_none (by rw [pgA_size]; omega)]
theorem putCg : ∀ (l : List Value) (cs : Array Value) (j i : Nat), (putC cs j l)[i]? = if j ≤ i ∧ i < j + l.length ∧ i < cs.size then l[i - j]? else cs[i]?
  | [], cs, j, i => by simp [putC]; omega
  | v :: l, cs, j, i => by
    rw [putC, putCg l]
    simp only [Array.size_setIfInBounds, List.length_cons]
    by_cases e : i = j
    · subst e
      rw [if_neg (by omega)]
      by_cases q : i < cs.size
      · rw [if_pos ⟨Nat.le_refl _, by omega, q⟩, Array.getElem?_setIfInBounds, if_pos rfl, if_pos q]; simp
      · rw [if_neg (by omega), Array.getElem?_eq_none (by simpa using q), Array.getElem?_eq_none (by omega)]
    · by_cases q : j + 1 ≤ i ∧ i < j + 1 + l.length ∧ i < cs.size
      · rw [if_pos q, if_pos ⟨by omega, by omega, q.2.2⟩, show i - j = (i - (j + 1)) + 1 from by omega]; rfl
      · rw [if_neg q, if_neg (by omega), Array.getElem?_setIfInBounds, if_neg (fun h => e h.symm)]
theorem pgA_all : putC (pgA k n g) 0 (pgA k n f).toList = pgA k n f := by
  apply Array.ext_getElem?
  intro i
  rw [putCg, pgA_size]
  by_cases q : i < n
  · rw [if_pos ⟨Nat.zero_le _, by rw [pgA_toList]; simpa using q, q⟩, Nat.sub_zero, Array.getElem?_toList]
  · rw [if_neg (by omega), Array.getElem?_eq_none (by rw [pgA_size]; omega), Array.getElem?_eq_none (by rw [pgA_size]; omega)]
theorem pgA_one : (pgA k n f).toList.all (·.oneCell') = true := by
  rw [pgA_toList, List.all_eq_true]
  intro v hv
  obtain ⟨i, -, rfl⟩ := List.mem_map.1 hv
  rfl
theorem pgA_ext (h : ∀ i, i < n → f i = g i) : pgA k n f = pgA k n g := by
  unfold pgA
  congr 1
  exact List.map_congr_left fun i hi => by rw [h i (List.mem_range.1 hi)]
/-- Two pages are one, told as a test. -/
def pgEq (n : Nat) (f g : Nat → Int) : Bool := (List.range n).all fun i => f i == g i
theorem pgEq_iff : pgEq n f g = true ↔ ∀ i, i < n → f i = g i := by unfold pgEq; simp
end

section
variable {P : Program} {ρ : Operand → Value} {C : World → Prop} {d : Option Tmp} {ty : TypeId} {pos : String} {aft : Array Edge} {gd : Option (Nat × Bool)} {k : IntKind} {n : Nat} {f g : Nat → Int} {w0 w : World} {S : Nat → Prop} {H G : List Res} {Φ : Value → World → Prop}
theorem Rd.indexArr {t e : TypeId} {x ix : Operand} {b off i sz m : Nat} {kk : IntKind} (hx : ρ x = .pointer (some ⟨b, off, none⟩)) (hix : ρ ix = .int kk (i : Int)) (hlt : i < m)
    (hu : ∀ w, (underlying t).run P w = .ok (.array m e) w) (hs : ∀ w, (sizeOf e).run P w = .ok sz w) :
    Rd P ρ ⟨d, .indexAddr t x ix, ty, pos, aft, gd⟩ C (.pointer (some ⟨b, off + i * sz, none⟩)) :=
  Rd.of (s := Instr.indexAt t (ρ x) (ρ ix)) rfl fun w _ => by
    rw [hx, hix]
    simp [Instr.indexAt, Instr.sureAddr, asIntOf, Sem.run_bind, hu, hs, Result.andThen, hlt, add_mk]
theorem ldv_one {t : TypeId} {i : Nat} {kk : IntKind} (hu : P.underlying t = some (.int kk)) (h : i < n) : ldv P t (pgA k n f) i = some (.int k (f i)) := by
  unfold ldv; rw [hu]; exact pgA_get h
theorem ldv_page {t e : TypeId} (hu : P.underlying t = some (.array n e)) (hs : (P.info? t).map (·.size) = some n) : ldv P t (pgA k n f) 0 = some (.agg (pgA k n f)) := by
  unfold ldv; rw [hu, hs]
  simp only [Nat.zero_add]
  rw [if_pos (by rw [pgA_size]; omega)]
  have h := Array.extract_size (xs := pgA k n f)
  rw [pgA_size] at h
  rw [h]
theorem run_page_eq (hd : Nat) {t e : TypeId} (ht : P.underlying t = some (.array n e)) (he : P.underlying e = some (.int k)) (hsz : ∀ w, (sizeOf e).run P w = .ok 1 w) (w : World) :
    (Op.equalIn (hd + 2) t (.agg (pgA k n f)) (.agg (pgA k n g))).run P w = .ok (pgEq n f g) w := by
  unfold pgEq
  rw [List.range_eq_range', Op.equalIn]
  simp only [Sem.run_bind, run_underlying ht, Result.andThen_ok, hsz, Std.Legacy.Range.forIn_eq_forIn_range', Std.Legacy.Range.size, Nat.sub_zero, Nat.add_sub_cancel, Nat.div_one]
  have hl : ∀ i ∈ List.range' 0 n 1, i < n := fun i hi => by simpa using (List.mem_range'_1.1 hi).2
  generalize List.range' 0 n 1 = l at hl ⊢
  induction l with
  | nil => simp
  | cons i l ih =>
    have hi : i < n := hl i (by simp)
    have px : ∀ f : Nat → Int, (part e (pgA k n f) (i * 1)).run P w = .ok (.int k (f i)) w := fun f => by
      have h1 : (pgA k n f)[i]? = some (.int k (f i)) := pgA_get hi
      simp [part, isAgg, run_underlying he, h1]
    have pe : (Op.equalIn (hd + 1) e (.int k (f i)) (.int k (g i))).run P w = .ok (f i == g i) w := by
      rw [run_equalIn_int w hd e k k _ _ he]
    simp only [List.forIn_cons, Sem.run_bind, px, pe, Result.andThen_ok, List.all_cons]
    cases hb : (f i == g i)
    · simp
    · simp only [Bool.not_true, Bool.false_eq_true, if_false, Sem.run_pure, Result.andThen_ok, Bool.true_and]
      exact ih fun j hj => hl j (by simp [hj])
/-- One number of a page is stored to. -/
theorem Runs.storePg {t : TypeId} {x y : Operand} {b j : Nat} {v : Int} (hx : ρ x = .pointer (some ⟨b, 0 + j * 1, none⟩)) (hy : ρ y = .int k v) (hsz : (P.info? t).map (·.size) = some 1) (hj : j < n)
    (hW : Ws w0 S H G w) (i : Nat) {T : TypeId} (hi : H[i]? = some (PgR k n T f b)) {H' : List Res} (hH : H.set i (PgR k n T (pgSet f j v) b) = H') (next : ∀ w', Ws w0 S H' G w' → Φ undef w') : Runs P ρ ⟨d, .store t x y, ty, pos, aft, gd⟩ w Φ :=
  Runs.store (cs' := pgA k n (pgSet f j v)) (hx.trans (by rw [show 0 + j * 1 = j from by omega])) hy hsz rfl rfl hW i hi (by rw [pgA_size]; omega) (pgA_put hj) hH next
/-- A page is stored whole. -/
theorem Runs.storePgAll {t : TypeId} {x y : Operand} {b : Nat} (hx : ρ x = .pointer (some ⟨b, 0, none⟩)) (hy : ρ y = .agg (pgA k n f)) (hsz : (P.info? t).map (·.size) = some n)
    (hW : Ws w0 S H G w) (i : Nat) {T : TypeId} (hi : H[i]? = some (PgR k n T g b)) {H' : List Res} (hH : H.set i (PgR k n T f b) = H') (next : ∀ w', Ws w0 S H' G w' → Φ undef w') : Runs P ρ ⟨d, .store t x y, ty, pos, aft, gd⟩ w Φ :=
  Runs.store (cs' := pgA k n f) hx hy hsz pgA_size pgA_one hW i hi (by rw [pgA_size]; omega) pgA_all hH next
end
end Go.Proofs.YtefmglgejjaipaaGreatDoor.L
