/- The engine: a page with some cells behind it, in one block. -/
import Derived.Test.YtcokpdlmahlpnaaE17
namespace Go.Proofs.Ytcokpdlmahlpnaa.L
open Go.RowKit Go.MapKept Go.Maps

/-- A page, and cells behind it. -/
def pgT (k : IntKind) (n : Nat) (f : Nat → Int) (tl : Array Value) : Array Value := pgA k n f ++ tl
abbrev PgTR (k : IntKind) (n : Nat) (T : TypeId) (f : Nat → Int) (tl : Array Value) (b : Nat) : Res := Cel b (pgT k n f tl) T
section
variable {k : IntKind} {n : Nat} {f g : Nat → Int} {tl : Array Value}
theorem pgT_size : (pgT k n f tl).size = n + tl.size := by simp [pgT, pgA_size]
theorem pgT_get {i : Nat} (h : i < n) : (pgT k n f tl)[i]? = some (.int k (f i)) := by
  unfold pgT; rw [Array.getElem?_append_left (by rw [pgA_size]; exact h)]; exact pgA_get h
theorem pgT_tail {i : Nat} (h : n ≤ i) : (pgT k n f tl)[i]? = tl[i - n]? := by
  unfold pgT; rw [Array.getElem?_append_right (by rw [pgA_size]; exact h), pgA_size]
theorem pgT_put {i : Nat} {v : Int} (h : i < n) : putC (pgT k n f tl) i [.int k v] = pgT k n (pgSet f i v) tl := by
  show (pgT k n f tl).setIfInBounds i (.int k v) = _
  apply Array.ext_getElem?
  intro j
  rw [Array.getElem?_setIfInBounds]
  by_cases e : i = j
  · subst e
    rw [if_pos rfl, if_pos (by rw [pgT_size]; omega), pgT_get h]; simp [pgSet]
  · rw [if_neg e]
    by_cases q : j < n
    · rw [pgT_get q, pgT_get q]; simp only [pgSet]; rw [if_neg (fun e' => e e'.symm)]
    · rw [pgT_tail (by omega), pgT_tail (by omega)]
theorem pgT_putT {i : Nat} {v : Value} {tl' : Array Value} (h : n ≤ i) (ht : tl.setIfInBounds (i - n) v = tl') : putC (pgT k n f tl) i [v] = pgT k n f tl' := by
  subst ht
  show (pgT k n f tl).setIfInBounds i v = _
  apply Array.ext_getElem?
  intro j
  rw [Array.getElem?_setIfInBounds, pgT_size]
  by_cases e : i = j
  · subst e
    rw [if_pos rfl, pgT_tail h, Array.getElem?_setIfInBounds, if_pos rfl]
    by_cases q : i - n < tl.size
    · rw [if_pos (by omega), if_pos q]
    · rw [if_neg (by omega), if_neg q]
  · rw [if_neg e]
    by_cases q : j < n
    · rw [pgT_get q, pgT_get q]
    · rw [pgT_tail (by omega), pgT_tail (by omega), Array.getElem?_setIfInBounds, if_neg (by omega)]
end
section
variable {P : Program} {ρ : Operand → Value} {d : Option Tmp} {ty : TypeId} {pos : String} {aft : Array Edge} {gd : Option (Nat × Bool)} {k : IntKind} {n : Nat} {f : Nat → Int} {tl : Array Value} {w0 w : World} {S : Nat → Prop} {H G : List Res} {Φ : Value → World → Prop}
theorem ldvT_one {t : TypeId} {i : Nat} {kk : IntKind} (hu : P.underlying t = some (.int kk)) (h : i < n) : ldv P t (pgT k n f tl) i = some (.int k (f i)) := by
  unfold ldv; rw [hu]; exact pgT_get h
theorem ldvT_int {t : TypeId} {i : Nat} {kk : IntKind} {v : Value} (hu : P.underlying t = some (.int kk)) (h : n ≤ i) (hv : tl[i - n]? = some v) : ldv P t (pgT k n f tl) i = some v := by
  unfold ldv; rw [hu]; exact (pgT_tail h).trans hv
theorem ldvT_bool {t : TypeId} {i : Nat} {v : Value} (hu : P.underlying t = some .bool) (h : n ≤ i) (hv : tl[i - n]? = some v) : ldv P t (pgT k n f tl) i = some v := by
  unfold ldv; rw [hu]; exact (pgT_tail h).trans hv
/-- One number of the page is stored to. -/
theorem Runs.storePgT {t : TypeId} {x y : Operand} {b j : Nat} {v : Int} (hx : ρ x = .pointer (some ⟨b, 0 + j * 1, none⟩)) (hy : ρ y = .int k v) (hsz : (P.info? t).map (·.size) = some 1) (hj : j < n)
    (hW : Ws w0 S H G w) (i : Nat) {T : TypeId} (hi : H[i]? = some (PgTR k n T f tl b)) {H' : List Res} (hH : H.set i (PgTR k n T (pgSet f j v) tl b) = H') (next : ∀ w', Ws w0 S H' G w' → Φ undef w') : Runs P ρ ⟨d, .store t x y, ty, pos, aft, gd⟩ w Φ :=
  Runs.store (cs' := pgT k n (pgSet f j v) tl) (hx.trans (by rw [show 0 + j * 1 = j from by omega])) hy hsz rfl rfl hW i hi (by rw [pgT_size]; omega) (pgT_put hj) hH next
/-- A cell behind it is stored to. -/
theorem Runs.storeTail {t : TypeId} {x y : Operand} {b j : Nat} {v : Value} (hx : ρ x = .pointer (some ⟨b, j, none⟩)) (hy : ρ y = v) (hsz : (P.info? t).map (·.size) = some 1) (hc : v.cells = #[v]) (h1 : v.oneCell' = true) (hj : n ≤ j ∧ j < n + tl.size) {tl' : Array Value} (ht : tl.setIfInBounds (j - n) v = tl')
    (hW : Ws w0 S H G w) (i : Nat) {T : TypeId} (hi : H[i]? = some (PgTR k n T f tl b)) {H' : List Res} (hH : H.set i (PgTR k n T f tl' b) = H') (next : ∀ w', Ws w0 S H' G w' → Φ undef w') : Runs P ρ ⟨d, .store t x y, ty, pos, aft, gd⟩ w Φ :=
  Runs.store (cs' := pgT k n f tl') hx hy hsz (by rw [hc]; rfl) (by rw [hc]; simp [h1]) hW i hi (by rw [pgT_size]; omega) (by rw [hc]; exact pgT_putT hj.1 ht) hH next
end
end Go.Proofs.Ytcokpdlmahlpnaa.L
