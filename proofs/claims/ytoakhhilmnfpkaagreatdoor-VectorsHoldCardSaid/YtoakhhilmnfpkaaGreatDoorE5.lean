/- The engine: slices: rows of a function's own, append, parts of slices. -/
import Derived.Test.YtoakhhilmnfpkaaGreatDoorE4
import Derived.Maps.AppendAt
import Derived.ArgAppend
import Derived.Deep.Upon
namespace Go.Proofs.YtoakhhilmnfpkaaGreatDoor.L
open Go.RowKit Go.MapKept Go.Maps

section
variable {α : Type} {en : α → List Value} {sz : Nat}
/-- What is asked of a type of elements. -/
structure Elt (P : Program) (E : TypeId) (sz : Nat) (en : α → List Value) : Prop where
  info : ∃ z bytes, (P.info? E).map (fun i => (i.zero, i.size, i.bytes)) = some (some z, sz, bytes) ∧ z.cells.size = sz ∧ bytes ≤ 1000
  pos : 0 < sz
  len : ∀ x, (en x).length = sz
  one : ∀ x, ∀ u ∈ en x, u.oneCell' = true

/-- All cells. -/
def flat (en : α → List Value) (l : List α) : List Value := l.flatMap en
theorem flat_len (h : ∀ x, (en x).length = sz) (l : List α) : (flat en l).length = l.length * sz := by
  unfold flat
  induction l with
  | nil => simp
  | cons x l ih => rw [List.flatMap_cons, List.length_append, h, ih, List.length_cons, Nat.add_mul]; omega
theorem flat_app (l m : List α) : flat en (l ++ m) = flat en l ++ flat en m := by simp [flat]
theorem flat_one {P : Program} {E : TypeId} (h : Elt P E sz en) (l : List α) : ∀ u ∈ flat en l, u.oneCell' = true := by
  intro u hu
  obtain ⟨x, -, hx⟩ := List.mem_flatMap.1 hu
  exact h.one x u hx
theorem flat_get (h : ∀ x, (en x).length = sz) (l : List α) (i j : Nat) (hj : j < sz) : (flat en l)[i * sz + j]? = (l[i]?).bind fun x => (en x)[j]? := by
  unfold flat
  induction l generalizing i with
  | nil => simp
  | cons y l ih =>
    rw [List.flatMap_cons]
    cases i with
    | zero => rw [List.getElem?_append_left (by rw [h]; omega)]; simp
    | succ i =>
      have e : (i + 1) * sz + j = sz + (i * sz + j) := by rw [Nat.add_mul]; omega
      rw [List.getElem?_append_right (by rw [h]; omega), h, e, Nat.add_sub_cancel_left, ih]
      simp

/-- A slice whose cells are the function's own: its value, what it lists. -/
def rowR (E sz : Nat) (en : α → List Value) (v : Value) (l : List α) : Res where
  fp := v.ownBlock.toList
  p w := w.ownsRow 0 E sz v l.length (flat en l)
  loc w w' h hp := by
    refine ⟨hp.1, ?_⟩
    rcases hp.2 with hh | ⟨g, cap, cur, rfl, hb, hg, rest⟩
    · exact .inl hh
    · exact .inr ⟨g, cap, cur, rfl, hb, (h g (by simp [Value.ownBlock])).trans hg, rest⟩

theorem owns_base {w : World} {base : Nat} {e : TypeId} {size : Nat} {v : Value} {n : Nat} {xs : List Value} (h : w.ownsRow base e size v n xs) : w.ownsRow 0 e size v n xs := by
  refine ⟨h.1, ?_⟩
  rcases h.2 with hh | ⟨g, cap, cur, rfl, hb', rest⟩
  · exact .inl hh
  · exact .inr ⟨g, cap, cur, rfl, Nat.zero_le _, rest⟩
theorem owns_form {w : World} {base E : Nat} {v : Value} {n : Nat} {xs : List Value} (h : w.ownsRow base E sz v n xs) :
    ∃ A c, v = .slice A n c ∧ n ≤ c ∧ (A = none → n = 0 ∧ c = 0) ∧ (∀ a, A = some a → a.off = 0 ∧ a.spot = none ∧ base ≤ a.block ∧ a.block < w.heap.size) := by
  rcases h.2 with ⟨rfl, rfl⟩ | ⟨g, cap, cur, rfl, hb, hg, h1, h2⟩
  · exact ⟨none, 0, rfl, Nat.le_refl _, (fun _ => ⟨rfl, rfl⟩), (fun a ha => by cases ha)⟩
  · exact ⟨_, cap, rfl, h1, (fun e => by cases e), (fun a ha => by cases ha; exact ⟨rfl, rfl, hb, lt_of_block hg⟩)⟩
theorem rowR_at {w : World} {E : Nat} {A : Option Addr} {n c : Nat} {l : List α} (h : (rowR E sz en (.slice A n c) l).p w) (hlen : ∀ x, (en x).length = sz) : RowAt w A sz en l := by
  have hc := fun g hg => World.ownsRow.cells h (g := g) hg
  rcases h.2 with ⟨h1, h2⟩ | ⟨g, cap, cur, h1, hb, hg, h3⟩
  · exact .inl (List.eq_nil_of_length_eq_zero h2)
  · cases h1
    refine .inr ⟨g, 0, rfl, lt_of_block hg, fun i x hi j u hj => ?_⟩
    have hj' : j < sz := by rw [← hlen x]; exact (List.getElem?_eq_some_iff.1 hj).1
    have := hc g rfl (i * sz + j) u (by rw [flat_get hlen l i j hj', hi]; exact hj)
    rwa [add_mk] at this
theorem rowAt_cel {w : World} {b : Nat} {cs : Array Value} {t : TypeId} {fr : Nat × Nat} (h : w.heap[b]? = some (.cells cs t fr)) (l : List α) (hcs : cs.toList = flat en l) (hlen : ∀ x, (en x).length = sz) : RowAt w (some ⟨b, 0, none⟩) sz en l := by
  refine .inr ⟨b, 0, rfl, lt_of_block h, fun i x hi j u hj => ?_⟩
  have hj' : j < sz := by rw [← hlen x]; exact (List.getElem?_eq_some_iff.1 hj).1
  rw [blk_cell h, ← Array.getElem?_toList, hcs, Nat.zero_add, flat_get hlen l i j hj', hi]
  exact hj
theorem RowAt.frS {w w' : World} {S : Nat → Prop} {A : Option Addr} {l : List α} (h : RowAt w A sz en l) (hf : Fr S w w') (hS : ∀ b off, A = some ⟨b, off, none⟩ → ¬ S b) : RowAt w' A sz en l := by
  rcases h with h | ⟨b, off, hA, hb, hc⟩
  · exact .inl h
  · refine .inr ⟨b, off, hA, Nat.lt_of_lt_of_le hb hf.size, fun i x hi j v hj => ?_⟩
    rw [← hc i x hi j v hj]
    unfold World.cell?
    rw [hf.block b hb (hS b off hA)]
/-- A slice that is only read. -/
def roR (A : Option Addr) (sz : Nat) (en : α → List Value) (l : List α) : Res where
  fp := if l.isEmpty then [] else (A.map (·.block)).toList
  p w := RowAt w A sz en l
  loc w w' h hp := by
    rcases hp with rfl | ⟨b, off, rfl, hb, hc⟩
    · exact .inl rfl
    · by_cases hl : l = []
      · exact .inl hl
      · have hbb : w'.heap[b]? = w.heap[b]? := h b (by simp [hl])
        refine .inr ⟨b, off, rfl, ?_, fun i x hi j v hj => ?_⟩
        · obtain ⟨o, ho⟩ : ∃ o, w.heap[b]? = some o := ⟨_, Array.getElem?_eq_getElem hb⟩
          rw [ho] at hbb
          exact lt_of_block hbb
        · rw [← hc i x hi j v hj]
          unfold World.cell?
          rw [hbb]
theorem roR_lt {w : World} {A : Option Addr} {l : List α} (h : RowAt w A sz en l) : ∀ b ∈ (roR A sz en l).fp, b < w.heap.size := by
  intro b hb
  rcases h with rfl | ⟨b', off, rfl, hb', hc⟩
  · simp [roR] at hb
  · unfold roR at hb
    simp only at hb
    split at hb
    · cases hb
    · simp at hb; subst hb; exact hb'
theorem roR_fp {A : Option Addr} {l m : List α} (h : l ≠ []) : ∀ b ∈ (roR A sz en m).fp, b ∈ (roR A sz en l).fp := by
  intro b hb
  unfold roR at hb ⊢
  simp only at hb ⊢
  split at hb
  · cases hb
  · simpa [h] using hb
theorem RowAt.nil' (w : World) (A : Option Addr) : RowAt w A sz en [] := .inl rfl
theorem RowAt.takeE {w : World} {A : Option Addr} {l : List α} (h : RowAt w A sz en l) (n : Nat) : RowAt w A sz en (l.take n) := by
  rcases h with rfl | ⟨b, off, hA, hb, hc⟩
  · exact .inl (by simp)
  · refine .inr ⟨b, off, hA, hb, fun i x hi => hc i x ?_⟩
    rw [List.getElem?_take] at hi
    split at hi
    · exact hi
    · cases hi
theorem RowAt.dropE {w : World} {A : Option Addr} {l : List α} {c : Nat} (h : RowAt w A sz en l) (hc : l.length ≤ c) (n : Nat) : RowAt w (if c = n then A else A.map (·.add (n * sz))) sz en (l.drop n) := by
  by_cases e : c = n
  · rw [List.drop_eq_nil_of_le (by omega)]; exact .inl rfl
  · rw [if_neg e]
    rcases h with rfl | ⟨b, off, hA, hb, hc⟩
    · exact .inl (by simp)
    · subst hA
      refine .inr ⟨b, off + n * sz, by simp [add_mk], hb, fun i x hi j v hj => ?_⟩
      rw [List.getElem?_drop] at hi
      have := hc (n + i) x hi j v hj
      rwa [show off + ((n + i) * sz + j) = off + n * sz + (i * sz + j) from by rw [Nat.add_mul]; omega] at this
end

section
variable {α : Type} {en : α → List Value} {sz E : Nat} {w0 w : World} {S : Nat → Prop} {H G : List Res}
/-- A slice that came in, and is only read. -/
theorem Ws.arg (h : Ws w0 S [] G w) {A : Option Addr} {l : List α} (hr : RowAt w A sz en l) : Ws w0 S [] (roR A sz en l :: G) w := h.addG _ hr (roR_lt hr) (by simp)
theorem rowR_ro {A : Option Addr} {n c : Nat} {l : List α} (h : (rowR E sz en (.slice A n c) l).p w) (hlen : ∀ x, (en x).length = sz) : (roR A sz en l).p w := rowR_at h hlen
theorem rowR_fp {A : Option Addr} {n c : Nat} {l : List α} : ∀ b ∈ (roR A sz en l).fp, b ∈ (rowR E sz en (.slice A n c) l).fp := by
  intro b hb
  unfold roR at hb
  simp only at hb
  split at hb
  · cases hb
  · cases A with
    | none => simp at hb
    | some a => simp [rowR, Value.ownBlock] at hb ⊢; exact hb
theorem Ws.addFromAt {G2 : List Res} {w' : World} (h0 : Ws w0 S H G w) (h : Ws w0 S H G2 w') {g : Res} {Gs : List Res} (hg : g.from_ Gs w w') (hs : ∀ x ∈ Gs, ∀ b ∈ x.fp, ∃ y ∈ G, b ∈ y.fp) : Ws w0 S H (g :: G2) w' :=
  h.addG g hg.1 (fun b hb => (hg.2 b hb).1) (fun r hr b hb hb' => by
    rcases (hg.2 b hb').2 with ⟨x, hx, hxb⟩ | h1
    · obtain ⟨y, hy, hyb⟩ := hs x hx b hxb
      exact h0.gd y hy r hr b hb hyb
    · have := h0.lt r hr b hb; omega)
theorem in_nil {G : List Res} : ∀ x ∈ ([] : List Res), ∀ b ∈ x.fp, ∃ y ∈ G, b ∈ y.fp := by simp
theorem in_cons {G Gs : List Res} {x : Res} (h : ∀ b ∈ x.fp, ∃ y ∈ G, b ∈ y.fp) (hr : ∀ x ∈ Gs, ∀ b ∈ x.fp, ∃ y ∈ G, b ∈ y.fp) : ∀ z ∈ x :: Gs, ∀ b ∈ z.fp, ∃ y ∈ G, b ∈ y.fp := by
  intro z hz
  rcases List.mem_cons.1 hz with rfl | hz
  · exact h
  · exact hr z hz
theorem in_at {G : List Res} {g : Res} (i : Nat) (hi : G[i]? = some g) : ∀ b ∈ g.fp, ∃ y ∈ G, b ∈ y.fp := fun _ hb => ⟨g, List.mem_of_getElem? hi, hb⟩
theorem in_none {G : List Res} : ∀ b ∈ (roR none sz en ([] : List α)).fp, ∃ y ∈ G, b ∈ y.fp := by simp [roR]
/-- Whose blocks these are. -/
def Res.src (g : Res) (Gs : List Res) (w0 : World) : Prop := ∀ b ∈ g.fp, (∃ x ∈ Gs, b ∈ x.fp) ∨ w0.heap.size ≤ b
theorem src_arg {g : Res} {Gs : List Res} {w0 : World} (h : g ∈ Gs) : g.src Gs w0 := fun _ hb => .inl ⟨g, h, hb⟩
theorem src_nil {Gs : List Res} : (roR none sz en ([] : List α)).src Gs w0 := by simp [Res.src, roR]
theorem src_call {g : Res} {Gs Gs' : List Res} {w2 w3 : World} (hg : g.from_ Gs' w2 w3) (hs : ∀ x ∈ Gs', x.src Gs w0) (hz : w0.heap.size ≤ w2.heap.size) : g.src Gs w0 := fun b hb => by
  rcases (hg.2 b hb).2 with ⟨x, hx, hxb⟩ | h1
  · exact hs x hx b hxb
  · exact .inr (Nat.le_trans hz h1)
theorem srcs_nil {Gs : List Res} : ∀ x ∈ ([] : List Res), x.src Gs w0 := by simp
theorem srcs_cons {x : Res} {Gs Gs' : List Res} (h : x.src Gs w0) (hr : ∀ x ∈ Gs', x.src Gs w0) : ∀ z ∈ x :: Gs', z.src Gs w0 := by
  intro z hz
  rcases List.mem_cons.1 hz with rfl | hz
  · exact h
  · exact hr z hz
theorem Ws.outSrc (h : Ws w0 S H G w) (i : Nat) {g : Res} {Gs : List Res} (hi : G[i]? = some g) (hs : g.src Gs w0) : g.from_ Gs w0 w := ⟨h.getG i hi, fun b hb => ⟨h.glt _ (List.mem_of_getElem? hi) b hb, hs b hb⟩⟩
theorem Ws.srcRow (h : Ws w0 S H G w) (i : Nat) {A : Option Addr} {n c : Nat} {l : List α} {Gs : List Res} (hi : H[i]? = some (rowR E sz en (.slice A n c) l)) (hS : ∀ b, ¬ S b) : (roR A sz en l).src Gs w0 :=
  fun b hb => .inr ((h.may _ (List.mem_of_getElem? hi) b (rowR_fp b hb)).resolve_left (hS b))
theorem own_cap {A : Option Addr} {n c : Nat} {l : List α} (h : (rowR E sz en (.slice A n c) l).p w) : l.length ≤ c := by
  rcases h.2 with ⟨h1, h2⟩ | ⟨g, cap, cur, h1, hb, hg, h3, -⟩
  · rw [h2]; exact Nat.zero_le _
  · cases h1; exact h3
theorem own_nil {n c : Nat} {l : List α} (h : (rowR E sz en (.slice none n c) l).p w) : l = [] := by
  rcases h.2 with ⟨h1, h2⟩ | ⟨g, cap, cur, h1, hb, hg, h3, -⟩
  · exact List.eq_nil_of_length_eq_zero h2
  · cases h1
theorem slice_eq {A A' : Option Addr} {n n' c c' : Nat} (hA : A = A') (hn : n = n') (hc : c = c') : Value.slice A n c = Value.slice A' n' c' := by subst hA hn hc; rfl
theorem from_nil {Gs : List Res} : (roR none sz en ([] : List α)).from_ Gs w0 w := ⟨.inl rfl, by simp [roR]⟩
/-- A row of one's own that is handed back, to be read. -/
theorem Ws.outRow (h : Ws w0 S H G w) (i : Nat) {A : Option Addr} {n c : Nat} {l : List α} {Gs : List Res} (hi : H[i]? = some (rowR E sz en (.slice A n c) l)) (hlen : ∀ x, (en x).length = sz) (hS : ∀ b, ¬ S b) : (roR A sz en l).from_ Gs w0 w :=
  have hm := List.mem_of_getElem? hi
  ⟨rowR_ro (h.get i hi) hlen, fun b hb => ⟨h.lt _ hm b (rowR_fp b hb), .inr ((h.may _ hm b (rowR_fp b hb)).resolve_left (hS b))⟩⟩
/-- What came in is handed back. -/
theorem Ws.outArg (h : Ws w0 S H G w) (i : Nat) {g : Res} {Gs : List Res} (hi : G[i]? = some g) (hm : g ∈ Gs) : g.from_ Gs w0 w :=
  ⟨h.getG i hi, fun b hb => ⟨h.glt _ (List.mem_of_getElem? hi) b hb, .inl ⟨g, hm, hb⟩⟩⟩
/-- Nothing is listed yet. -/
theorem Ws.addNil (h : Ws w0 S H G w) (E sz : Nat) (en : α → List Value) : Ws w0 S (rowR E sz en (.slice none 0 0) [] :: H) G w :=
  h.add (Fr.refl No w) _ ⟨by simp [flat], .inl ⟨rfl, rfl⟩⟩ (by simp [rowR, Value.ownBlock])
/-- A row that a call has made. -/
theorem Ws.addRow (h : Ws w0 S H G w) {w' : World} (hf : Fr No w w') {v : Value} {l : List α} (hv : w'.ownsRow w.heap.size E sz v l.length (flat en l)) : Ws w0 S (rowR E sz en v l :: H) G w' := by
  refine h.add hf _ (owns_base hv) (fun b hb => ?_)
  rcases hv.2 with ⟨rfl, -⟩ | ⟨g, cap, cur, rfl, hb', hg, rest⟩
  · simp [rowR, Value.ownBlock] at hb
  · simp [rowR, Value.ownBlock] at hb; subst hb; exact ⟨hb', lt_of_block hg⟩
/-- A block of cells is a row of one's own. -/
theorem Ws.celRow (h : Ws w0 S H G w) (i : Nat) {b : Nat} {cs : Array Value} (hi : H[i]? = some (Cel b cs E)) (l : List α) (hcs : cs.toList = flat en l) (hlen : ∀ x, (en x).length = sz) (hb : l.length ≤ maxLen) {H' : List Res} (hH : H.set i (rowR E sz en (.slice (some ⟨b, 0, none⟩) l.length l.length) l) = H') : Ws w0 S H' G w := by
  have hcel := h.cel i hi
  refine h.turn i hi (Fr.refl _ w) (r' := rowR E sz en (.slice (some ⟨b, 0, none⟩) l.length l.length) l) ⟨flat_len hlen l, .inr ⟨b, l.length, cs, rfl, Nat.zero_le _, hcel, Nat.le_refl _, hb, ?_, ?_⟩⟩ (fun x hx => ?_) hH
  · rw [← Array.length_toList, hcs, flat_len hlen]
  · rw [hcs, List.take_of_length_le (by rw [flat_len hlen]; exact Nat.le_refl _)]
  · simp [rowR, Value.ownBlock] at hx
    exact ⟨.inl (by simp [Cel, hx]), h.lt _ (List.mem_of_getElem? hi) x (by simp [Cel, hx])⟩

variable {P : Program} {ρ : Operand → Value} {C : World → Prop} {Φ : Value → World → Prop}
variable {d : Option Tmp} {ty : TypeId} {pos : String} {aft : Array Edge} {g : Option (Nat × Bool)}

/-- How a fresh row is handed back. -/
def Fresh (E sz : Nat) (en : α → List Value) (l : List α) (w : World) (e : Ending) (w' : World) : Prop := ∃ v, e = .returned v ∧ w'.ownsRow w.heap.size E sz v l.length (flat en l) ∧ Fr No w w'
theorem Runs.callRow {o : Oper} {f : FuncId} {args : Array Value} {l : List α} (he : ∀ w, (execOp ρ o).run P w = .ok (.enter f args) w) (hW : Ws w0 S H G w) (hc : Calls P f args w (Fresh E sz en l w))
    (next : ∀ A c w', Ws w0 S (rowR E sz en (.slice A l.length c) l :: H) G w' → l.length ≤ c → Fr No w w' → Φ (.slice A l.length c) w') : Runs P ρ o w Φ :=
  Runs.call he hc fun e w' ⟨v, h1, h2, h3⟩ => by
    obtain ⟨A, c, rfl, h4, -⟩ := owns_form h2
    exact ⟨_, h1, next A c w' (hW.addRow h3 h2) h4 h3⟩
theorem own_new {w : World} {v : Value} {l : List α} {base : Nat} (h : (rowR E sz en v l).p w) (hb : ∀ b ∈ (rowR E sz en v l).fp, base ≤ b) : w.ownsRow base E sz v l.length (flat en l) := by
  refine ⟨h.1, ?_⟩
  rcases h.2 with hh | ⟨g, cap, cur, rfl, hb', rest⟩
  · exact .inl hh
  · exact .inr ⟨g, cap, cur, rfl, hb g (by simp [rowR, Value.ownBlock]), rest⟩
/-- A row of H, handed back. -/
theorem Ws.fresh (h : Ws w0 S H G w) (i : Nat) {v : Value} {l : List α} (hi : H[i]? = some (rowR E sz en v l)) (hS : ∀ b, ¬ S b) : w.ownsRow w0.heap.size E sz v l.length (flat en l) :=
  own_new (h.get i hi) (fun b hb => (h.may _ (List.mem_of_getElem? hi) b hb).resolve_left (hS b))

/-! ### append -/
theorem run_appOwn {T : TypeId} (hel : Elt P E sz en) (hu : P.underlying T = some (.slice E)) (v : Value) (l m : List α) (hown : w.ownsRow 0 E sz v l.length (flat en l)) (B : Option Addr) (k : Nat) (hB : RowAt w B sz en m) (hk : m.length ≤ k) (hn : l.length + m.length < 1000000) :
    ∃ v' w', (Builtin.append_ #[T, T] ty #[v, .slice B m.length k]).run P w = .ok v' w' ∧ w'.ownsRow 0 E sz v' (l ++ m).length (flat en (l ++ m)) ∧ w.grownBy w' v.ownBlock ∧ (v'.ownBlock = v.ownBlock ∨ v'.ownBlock = some w.heap.size) := by
  obtain ⟨z, bytes, hinfo, hz, hby⟩ := hel.info
  obtain ⟨i0, hi, hz0, hz1, hz2⟩ := info_parts hinfo
  rw [List.length_append, flat_app]
  by_cases h0 : m = []
  · subst h0
    obtain ⟨A, c, rfl, h1, h2, -⟩ := owns_form hown
    have hs : Src P i0.size T (.slice B 0 k) 0 [] w := by
      cases B with
      | none => exact Src.ofNil w hu k
      | some a => exact Src.ofSlice w hu a 0 k [] (by simp) (by simp) (by simp)
    exact ⟨_, w, run_append_nothing (P := P) w T T ty _ i0 hu hi A l.length c h1 _ hs, by simpa [flat] using hown, ⟨rfl, rfl, rfl, Nat.le_refl _, fun _ _ _ => rfl⟩, .inl rfl⟩
  · rcases hB with rfl | ⟨b, off, rfl, hb0, hc⟩
    · exact absurd rfl h0
    · have hnb : (l.length + m.length) * bytes ≤ 140737488355328 := Nat.le_trans (Nat.mul_le_mul (Nat.le_of_lt hn) hby) (by decide)
      obtain ⟨v', w', hrun, r1, r2, _, r4⟩ := run_append_own_at (P := P) w 0 T ty _ i0 z sz bytes hu hi hz0 hz1 hz2 hz hel.pos v l.length _ hown ⟨b, off, none⟩ m.length k (flat en m) (flat_len hel.len m) (fun j u hj => by
        rw [add_mk]
        have hjl : j < m.length * sz := by rw [← flat_len hel.len m]; exact (List.getElem?_eq_some_iff.1 hj).1
        have h := flat_get hel.len m (j / sz) (j % sz) (Nat.mod_lt _ hel.pos)
        rw [Nat.div_add_mod'] at h
        rw [hj] at h
        cases hp : m[j / sz]? with
        | none => rw [hp] at h; cases h
        | some p =>
          rw [hp] at h
          have := hc (j / sz) p hp (j % sz) u h.symm
          rwa [Nat.div_add_mod'] at this) (flat_one hel m) (by simp only [maxLen]; omega) hnb (Nat.zero_le _)
      exact ⟨v', w', hrun, r1, r2, r4⟩
theorem Runs.appOwn {T : TypeId} {x y : Operand} {A B : Option Addr} {c k i : Nat} {l m : List α} (hx : ρ x = .slice A l.length c) (hy : ρ y = .slice B m.length k) (hel : Elt P E sz en) (hu : P.underlying T = some (.slice E)) (hW : Ws w0 S H G w)
    (hi : H[i]? = some (rowR E sz en (.slice A l.length c) l)) (hB : RowAt w B sz en m) (hk : m.length ≤ k) (hn : l.length + m.length < 1000000)
    (next : ∀ A' c' w', Ws w0 S (H.set i (rowR E sz en (.slice A' (l ++ m).length c') (l ++ m))) G w' → (l ++ m).length ≤ c' → Φ (.slice A' (l ++ m).length c') w') :
    Runs P ρ ⟨d, .call ⟨.builtin .append, #[x, y], #[T, T]⟩, ty, pos, aft, g⟩ w Φ := by
  obtain ⟨v', w', h1, h2, h3, h4⟩ := run_appOwn (ty := ty) hel hu (.slice A l.length c) l m (hW.get i hi) B k hB hk hn
  obtain ⟨A', c', rfl, h5, h6, h7⟩ := owns_form h2
  unfold Runs
  have he : (execOp ρ ⟨d, .call ⟨.builtin .append, #[x, y], #[T, T]⟩, ty, pos, aft, g⟩).run P w = .ok (.value (.slice A' (l ++ m).length c')) w' := by
    show (do let d ← resolve ρ ⟨.builtin .append, #[x, y], #[T, T]⟩ ty; invoke d.target d.args : Sem Next).run P w = _
    simp only [resolve, invoke, builtin, Sem.run_bind, Sem.run_pure, Result.andThen_ok, List.map_toArray, List.map_cons, List.map_nil, hx, hy, h1]
  rw [he]
  have hm := List.mem_of_getElem? hi
  refine next A' c' w' (hW.turn i hi (r' := rowR E sz en (.slice A' (l ++ m).length c') (l ++ m)) (Fr.of_grown (Fr.refl _ w) h3 (fun j hj => .inl (by show j ∈ (Value.ownBlock _).toList; rw [hj]; simp))) h2 (fun b hb => ?_) rfl) h5
  have hb' : (Value.slice A' (l ++ m).length c').ownBlock = some b := by simpa [rowR] using hb
  refine ⟨?_, ?_⟩
  · rcases h4 with h4 | h4
    · exact .inl (by show b ∈ (Value.ownBlock _).toList; rw [← h4, hb']; simp)
    · rw [hb'] at h4; cases h4; exact .inr (Nat.le_refl _)
  · cases A' with
    | none => simp [Value.ownBlock] at hb'
    | some a => simp [Value.ownBlock] at hb'; subst hb'; exact (h7 a rfl).2.2.2
/-- Onto a slice that has no room: a row of one's own comes of it. -/
theorem Rd.slice {T : TypeId} {x : Operand} {lo hi mx : Option Operand} {A : Option Addr} {n c l h m : Nat} (hx : ρ x = .slice A n c) (hu : ∀ w, (underlying T).run P w = .ok (.slice E) w) (hs : ∀ w, (sizeOf E).run P w = .ok sz w)
    (hb : ∀ w, (Instr.sliceBounds true n c (lo.map ρ) (hi.map ρ) (mx.map ρ)).run P w = .ok (l, h, m) w) :
    Rd P ρ ⟨d, .slice T x lo hi mx, ty, pos, aft, g⟩ C (.slice (if m = l then A else A.map (·.add (l * sz))) (h - l) (m - l)) :=
  Rd.of (s := Instr.sliceAt T (ρ x) (lo.map ρ) (hi.map ρ) (mx.map ρ)) rfl fun w _ => by
    rw [hx]
    simp [Instr.sliceAt, Instr.slice, Sem.run_bind, hu, hs, hb, Result.andThen]
theorem run_bound {k n : Nat} {code : BoundsCode} (h : k ≤ n) (w : World) : (Instr.sliceBound (.int .i64 (k : Int)) n code).run P w = .ok k w := by
  have h2 : (k : Int) ≤ (n : Int) := by omega
  simp [Instr.sliceBound, asIntOf, h]
theorem bounds_hi {n c h : Nat} (hh : h ≤ c) (w : World) : (Instr.sliceBounds true n c none (some (.int .i64 (h : Int))) none).run P w = .ok (0, h, c) w := by
  simp [Instr.sliceBounds, run_bound (P := P) hh]
theorem bounds_lo {n c l : Nat} (hl : l ≤ n) (w : World) : (Instr.sliceBounds true n c (some (.int .i64 (l : Int))) none none).run P w = .ok (l, n, c) w := by
  simp [Instr.sliceBounds, run_bound (P := P) hl]
theorem bounds_lohi {n c l h : Nat} (hl : l ≤ h) (hh : h ≤ c) (w : World) : (Instr.sliceBounds true n c (some (.int .i64 (l : Int))) (some (.int .i64 (h : Int))) none).run P w = .ok (l, h, c) w := by
  simp [Instr.sliceBounds, Sem.run_bind, run_bound (P := P) hl, run_bound (P := P) hh]
theorem bounds_him {n c h m : Nat} (hh : h ≤ m) (hm : m ≤ c) (w : World) : (Instr.sliceBounds true n c none (some (.int .i64 (h : Int))) (some (.int .i64 (m : Int)))).run P w = .ok (0, h, m) w := by
  simp [Instr.sliceBounds, Sem.run_bind, run_bound (P := P) hh, run_bound (P := P) hm]
theorem bounds_all {n c : Nat} (w : World) : (Instr.sliceBounds true n c none none none).run P w = .ok (0, n, c) w := by
  simp [Instr.sliceBounds]
/-- From the begin on: the address stays. -/
theorem addr_zero (A : Option Addr) (m sz : Nat) : (if m = 0 then A else A.map (·.add (0 * sz))) = A := by
  split
  · rfl
  · cases A <;> simp [Addr.add]
end
end Go.Proofs.YtoakhhilmnfpkaaGreatDoor.L
