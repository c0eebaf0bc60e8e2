/- Small laws on worlds, blocks and maps that every walk of this seat uses; nothing of the program. -/
import Derived.WalkKit
import Derived.WalkSpells
import Derived.WalkLawsBesides
import Derived.KernelRfl
import Derived.Maps.Keyed
import Derived.Maps.RangeRun
import Derived.WideKeyEntry
import Derived.OneCell
import Derived.Lib.Hide
namespace Go.Proofs.YtoakhhilmnfpkaaGreatDoor.L
open Go.RowKit Go.MapKept Go.Maps

/-! ### Frames: which old blocks may have turned -/
/-- w' is w but for blocks in S, and new blocks. -/
structure Fr (S : Nat → Prop) (w w' : World) : Prop where
  os : w'.os = w.os
  tape : w'.tape = w.tape
  output : w'.output = w.output
  size : w.heap.size ≤ w'.heap.size
  block : ∀ k, k < w.heap.size → ¬ S k → w'.heap[k]? = w.heap[k]?

def No : Nat → Prop := fun _ => False

theorem Fr.refl (S : Nat → Prop) (w : World) : Fr S w w := ⟨rfl, rfl, rfl, Nat.le_refl _, fun _ _ _ => rfl⟩
theorem Fr.trans {S S' T : Nat → Prop} {a b c : World} (h : Fr S a b) (k : Fr S' b c) (h1 : ∀ i, i < a.heap.size → S i → T i) (h2 : ∀ i, i < a.heap.size → S' i → T i) : Fr T a c :=
  ⟨k.os.trans h.os, k.tape.trans h.tape, k.output.trans h.output, Nat.le_trans h.size k.size,
    fun i hi hn => (k.block i (Nat.lt_of_lt_of_le hi h.size) (fun s => hn (h2 i hi s))).trans (h.block i hi (fun s => hn (h1 i hi s)))⟩
theorem Fr.mono {S T : Nat → Prop} {a b : World} (h : Fr S a b) (h1 : ∀ i, i < a.heap.size → S i → T i) : Fr T a b :=
  ⟨h.os, h.tape, h.output, h.size, fun i hi hn => h.block i hi (fun s => hn (h1 i hi s))⟩
theorem Fr.to {S S' : Nat → Prop} {a b c : World} (h : Fr S a b) (k : Fr S' b c) (h2 : ∀ i, i < a.heap.size → S' i → S i) : Fr S a c := h.trans k (fun _ _ s => s) h2
theorem Fr.no {S : Nat → Prop} {a b c : World} (h : Fr S a b) (k : Fr No b c) : Fr S a c := h.to k (fun _ _ s => s.elim)
theorem Fr.drew {S : Nat → Prop} {a b : World} (h : Fr S a b) : Fr S a b.drew := ⟨h.os, h.tape, h.output, h.size, h.block⟩
theorem Fr.drewN {S : Nat → Prop} {a b : World} (h : Fr S a b) (n : Nat) : Fr S a (b.drewN n) := ⟨h.os, h.tape, h.output, h.size, h.block⟩
theorem Fr.alloc {S : Nat → Prop} {a b : World} (h : Fr S a b) (o : Obj) : Fr S a (b.alloc o) :=
  ⟨h.os, h.tape, h.output, Nat.le_trans h.size (by simp), fun i hi hn => (Below.heap_alloc _ _ _ (Nat.lt_of_lt_of_le hi h.size)).trans (h.block i hi hn)⟩
theorem Fr.setCell {S : Nat → Prop} {a b : World} (h : Fr S a b) {p : Addr} (hp : S p.block ∨ a.heap.size ≤ p.block) (u : Value) : Fr S a (b.setCell p u) :=
  ⟨h.os, h.tape, h.output, by simpa [World.setCell] using h.size, fun i hi hn => by
    have hne : i ≠ p.block := fun e => hp.elim (fun hp => hn (by rw [e]; exact hp)) (fun hp => by omega)
    rw [Below.heap_setCell _ _ _ _ hne]
    exact h.block i hi hn⟩
theorem Fr.below {w w' : World} (h : Fr No w w') : Below w.heap.size w w' := ⟨h.os, h.tape, h.output, h.size, fun k hk => h.block k hk (fun s => s)⟩
theorem Fr.of_below {w w' : World} (h : Below w.heap.size w w') : Fr No w w' := ⟨h.os, h.tape, h.output, h.size, fun k hk _ => h.block k hk⟩
theorem Fr.of_grown {S : Nat → Prop} {a b c : World} {row : Option Nat} (h : Fr S a b) (hg : b.grownBy c row) (hr : ∀ k, row = some k → S k ∨ a.heap.size ≤ k) : Fr S a c :=
  ⟨hg.os.trans h.os, hg.tape.trans h.tape, hg.output.trans h.output, Nat.le_trans h.size hg.size, fun i hi hn => by
    refine (hg.block i (Nat.lt_of_lt_of_le hi h.size) (fun e => ?_)).trans (h.block i hi hn)
    rcases hr i e.symm with h1 | h1
    · exact hn h1
    · omega⟩

/-- A block, carried. -/
theorem Fr.at {S : Nat → Prop} {w w' : World} {b : Nat} {o : Obj} (h : Fr S w w') (hb : w.heap[b]? = some o) (hn : ¬ S b) : w'.heap[b]? = some o := (h.block b (lt_of_block hb) hn).trans hb

/-! ### blocks -/
theorem blk_cell {w : World} {b : Nat} {cs : Array Value} {t : TypeId} {fr : Nat × Nat} (h : w.heap[b]? = some (.cells cs t fr)) (i : Nat) : w.cell? ⟨b, i, none⟩ = cs[i]? := by
  unfold World.cell?
  simp [h]
theorem blk_free {w : World} {b : Nat} {cs : Array Value} {t : TypeId} (h : w.heap[b]? = some (.cells cs t (0, 0))) (i : Nat) : w.frozen? ⟨b, i, none⟩ = false := by
  unfold World.frozen?
  simp [h]
/-- All cells of a block that is known whole, as two rules for the walk; and that it is there. -/
theorem blk_all {w : World} {b : Nat} {cs : Array Value} {t : TypeId} (h : w.heap[b]? = some (.cells cs t (0, 0))) :
    (∀ i, w.cell? ⟨b, i, none⟩ = cs[i]?) ∧ (∀ i, w.frozen? ⟨b, i, none⟩ = false) ∧ b < w.heap.size := ⟨blk_cell h, blk_free h, lt_of_block h⟩
theorem blk_set {w : World} {b : Nat} {cs : Array Value} {t : TypeId} {fr : Nat × Nat} (h : w.heap[b]? = some (.cells cs t fr)) (i : Nat) (v : Value) : (w.setCell ⟨b, i, none⟩ v).heap[b]? = some (.cells (cs.setIfInBounds i v) t fr) := by
  have hlt := lt_of_block h
  have h' : w.heap[b] = .cells cs t fr := by simpa [Array.getElem?_eq_getElem hlt] using h
  show (w.heap.modify b _)[b]? = _
  rw [Array.getElem?_eq_getElem (by simpa using hlt), Array.getElem_modify_self, h']
  rfl
theorem blk_set_other {w : World} {b : Nat} {o : Obj} (h : w.heap[b]? = some o) {a : Addr} (hne : b ≠ a.block) (v : Value) : (w.setCell a v).heap[b]? = some o := by
  rw [Below.heap_setCell _ _ _ _ hne]; exact h
theorem blk_new (w : World) (o : Obj) : (w.alloc o).heap[w.heap.size]? = some o := (MapKept.heap_alloc w o).1
theorem blk_alloc {w : World} {b : Nat} {o : Obj} (h : w.heap[b]? = some o) (o' : Obj) : (w.alloc o').heap[b]? = some o := (Below.heap_alloc _ _ _ (lt_of_block h)).trans h

/-! ### maps as association lists -/
/-- What the laws on a map want of its key's type: κ is how keys are spoken of, ek what they are in memory. -/
structure KeyE {κ : Type} (P : Program) (k : TypeId) (ek : κ → Value) : Prop where
  inj : ∀ {a b : κ}, ek a = ek b → a = b
  check : ∀ (w : World) (em : Bool) (a : κ), (Instr.checkKey em 10000 k (ek a)).run P w = .ok () w
  find : ∀ (w : World) (a : κ) (es : List MapEntry), (∀ e ∈ es, ∃ b, e.key = ek b) →
    ((Instr.findKey k (ek a) es).run P w = .ok none w ∧ ∀ e ∈ es, e.key ≠ ek a) ∨ ∃ j e, (Instr.findKey k (ek a) es).run P w = .ok (some (j, e.val)) w ∧ es[j]? = some e ∧ e.key = ek a
  stays : ∀ (w : World) (a : κ), (Instr.keyThatStays (ek a) (ek a)).run P w = .ok (ek a) w

theorem KeyE.int {P : Program} {k : TypeId} {q : IntKind} (hk : P.underlying k = some (.int q)) : KeyE P k (fun a : Int => .int q a) where
  inj h := by cases h; rfl
  check w em a := run_checkKey hk (by rfl) em 9999
  find w a es hes := by
    have hks : ∀ y ∈ es, IsKey (.int q) y.key := fun y hy => by
      obtain ⟨b, hb⟩ := hes y hy
      rw [hb]; rfl
    rcases findNow_spec (d := .int q) (k := .int q a) rfl es 0 hks with ⟨h1, h2⟩ | ⟨j, e0, h1, h2, h3⟩
    · exact Or.inl ⟨run_findKey hk h1, h2⟩
    · exact Or.inr ⟨j, e0, by simpa using run_findKey hk h1, h2, h3⟩
  stays w a := run_keyThatStays (d := .int q) rfl

theorem findNow_struct (fs : Array Field) (x : Value) : ∀ (es : List MapEntry) (i : Nat), Instr.findNow (.struct fs) x es i = if es = [] then some none else none
  | [], _ => rfl
  | e :: es, i => by simp [Instr.findNow, Instr.sameNow]

/-- A key of a struct's type: '==' and the look at the key are laid by the caller. -/
theorem KeyE.struct {κ : Type} [DecidableEq κ] {P : Program} {k : TypeId} {fs : Array Field} {ek : κ → Value} (hk : P.underlying k = some (.struct fs)) (inj : ∀ {a b : κ}, ek a = ek b → a = b)
    (heq : ∀ (w : World) (a b : κ), (Op.equal k (ek a) (ek b)).run P w = .ok (decide (a = b)) w) (check : ∀ (w : World) (em : Bool) (a : κ), (Instr.checkKey em 10000 k (ek a)).run P w = .ok () w)
    (stays : ∀ (a : κ), Instr.sameBits 10000 (ek a) (ek a) = true) : KeyE P k ek where
  inj := inj
  check := check
  find w a es hes := by
    have ask : ∀ (l : List MapEntry) (i : Nat), (∀ e ∈ l, ∃ b, e.key = ek b) →
        ((Instr.findAsking k (ek a) l i).run P w = .ok none w ∧ ∀ e ∈ l, e.key ≠ ek a) ∨ ∃ j e, (Instr.findAsking k (ek a) l i).run P w = .ok (some (i + j, e.val)) w ∧ l[j]? = some e ∧ e.key = ek a := by
      intro l
      induction l with
      | nil => intro i _; exact .inl ⟨rfl, by simp⟩
      | cons x l ih =>
        intro i hl
        obtain ⟨b, hb⟩ := hl x (.head _)
        by_cases e : a = b
        · subst e
          refine .inr ⟨0, x, ?_, rfl, hb⟩
          simp [Instr.findAsking, hb, heq w a a, Result.andThen]
        · rcases ih (i + 1) (fun y hy => hl y (.tail _ hy)) with ⟨h1, h2⟩ | ⟨j, y, h1, h2, h3⟩
          · refine .inl ⟨by simp [Instr.findAsking, hb, heq w a b, e, Result.andThen, h1], fun y hy => ?_⟩
            rcases List.mem_cons.1 hy with rfl | hy
            · rw [hb]; exact fun h => e (inj h).symm
            · exact h2 y hy
          · exact .inr ⟨j + 1, y, by simp [Instr.findAsking, hb, heq w a b, e, Result.andThen, h1]; omega, by simpa using h2, h3⟩
    have hf : (Instr.findKey k (ek a) es).run P w = if es = [] then .ok none w else (Instr.findAsking k (ek a) es 0).run P w := by
      cases es with
      | nil => simp [Instr.findKey, run_underlying hk, Result.andThen, findNow_struct]
      | cons e es => simp [Instr.findKey, run_underlying hk, Result.andThen, findNow_struct]
    rw [hf]
    by_cases he : es = []
    · subst he; exact .inl ⟨rfl, by simp⟩
    · rw [if_neg he]
      simpa using ask es 0 hes
  stays w a := by simp [Instr.keyThatStays, stays a]

section
variable {κ ν : Type} [DecidableEq κ]

/-- Look up, put, strike: the first entry at a key counts. -/
def look : List (κ × ν) → κ → Option ν
  | [], _ => none
  | (a, v) :: r, k => if a = k then some v else look r k
def put : List (κ × ν) → κ → ν → List (κ × ν)
  | [], k, v => [(k, v)]
  | (a, u) :: r, k, v => if a = k then (a, v) :: r else (a, u) :: put r k v
def del : List (κ × ν) → κ → List (κ × ν)
  | [], _ => []
  | (a, u) :: r, k => if a = k then r else (a, u) :: del r k

def keys (m : List (κ × ν)) : List κ := m.map (·.1)

theorem look_none {m : List (κ × ν)} {k : κ} : look m k = none ↔ k ∉ keys m := by
  induction m with
  | nil => simp [look, keys]
  | cons x r ih =>
    obtain ⟨a, v⟩ := x
    unfold look
    by_cases h : a = k
    · simp [h, keys]
    · rw [if_neg h, ih]; simp [keys]
      intro _; exact fun e => h e.symm
theorem look_mem {m : List (κ × ν)} {k : κ} {v : ν} (h : look m k = some v) : (k, v) ∈ m := by
  induction m with
  | nil => simp [look] at h
  | cons x r ih =>
    obtain ⟨a, u⟩ := x
    unfold look at h
    by_cases e : a = k
    · rw [if_pos e] at h; cases h; subst e; exact .head _
    · rw [if_neg e] at h; exact .tail _ (ih h)
theorem look_of_mem {m : List (κ × ν)} (hn : (keys m).Nodup) {k : κ} {v : ν} (h : (k, v) ∈ m) : look m k = some v := by
  induction m with
  | nil => cases h
  | cons x r ih =>
    obtain ⟨a, u⟩ := x
    obtain ⟨h1, h2⟩ := List.nodup_cons.1 hn
    unfold look
    rcases List.mem_cons.1 h with e | hr
    · cases e; rw [if_pos rfl]
    · rw [if_neg (fun e => h1 (List.mem_map.2 ⟨(k, v), hr, e.symm⟩))]; exact ih h2 hr
theorem look_put {m : List (κ × ν)} {k : κ} {v : ν} (j : κ) : look (put m k v) j = if k = j then some v else look m j := by
  induction m with
  | nil => simp [put, look]
  | cons x r ih =>
    obtain ⟨a, u⟩ := x
    unfold put
    by_cases e : a = k
    · subst e
      rw [if_pos rfl]
      simp only [look]
      by_cases ej : a = j <;> simp [ej]
    · rw [if_neg e]
      simp only [look, ih]
      by_cases ej : a = j
      · subst ej; rw [if_pos rfl, if_pos rfl, if_neg (fun h => e h.symm)]
      · rw [if_neg ej, if_neg ej]
theorem keys_put {m : List (κ × ν)} {k : κ} {v : ν} : keys (put m k v) = if k ∈ keys m then keys m else keys m ++ [k] := by
  induction m with
  | nil => simp [put, keys]
  | cons x r ih =>
    obtain ⟨a, u⟩ := x
    unfold put
    by_cases e : a = k
    · subst e; simp [keys]
    · rw [if_neg e]
      have e1 : keys ((a, u) :: put r k v) = a :: keys (put r k v) := rfl
      have e2 : keys ((a, u) :: r) = a :: keys r := rfl
      rw [e1, e2, ih]
      by_cases hk : k ∈ keys r
      · rw [if_pos hk, if_pos (.tail _ hk)]
      · rw [if_neg hk, if_neg (fun h => (List.mem_cons.1 h).elim (fun h => e h.symm) hk)]; rfl
theorem nodup_put {m : List (κ × ν)} (hn : (keys m).Nodup) (k : κ) (v : ν) : (keys (put m k v)).Nodup := by
  rw [keys_put]
  split
  · exact hn
  · rename_i h
    exact List.nodup_append.2 ⟨hn, by simp, fun a ha b hb => by simp at hb; subst hb; exact fun e => h (e ▸ ha)⟩
theorem del_sub {m : List (κ × ν)} {k : κ} : (del m k).Sublist m := by
  induction m with
  | nil => exact .slnil
  | cons x r ih =>
    obtain ⟨a, u⟩ := x
    unfold del
    by_cases e : a = k
    · rw [if_pos e]; exact List.sublist_cons_self _ _
    · rw [if_neg e]; exact ih.cons_cons _
theorem nodup_del {m : List (κ × ν)} (hn : (keys m).Nodup) (k : κ) : (keys (del m k)).Nodup := (del_sub.map _).nodup hn
theorem look_del {m : List (κ × ν)} (hn : (keys m).Nodup) (k j : κ) : look (del m k) j = if k = j then none else look m j := by
  induction m with
  | nil => simp [del, look]
  | cons x r ih =>
    obtain ⟨a, u⟩ := x
    obtain ⟨h1, h2⟩ := List.nodup_cons.1 hn
    unfold del
    by_cases e : a = k
    · subst e
      rw [if_pos rfl]
      by_cases ej : a = j
      · subst ej; rw [if_pos rfl]; exact look_none.2 h1
      · rw [if_neg ej]; simp [look, ej]
    · rw [if_neg e]
      simp only [look, ih h2]
      by_cases ej : a = j
      · subst ej; rw [if_pos rfl, if_pos rfl, if_neg (fun h => e h.symm)]
      · rw [if_neg ej, if_neg ej]
end

section
variable {κ ν : Type} {P : Program} {w : World} {b : Nat} {ek : κ → Value} {ev : ν → Value} {m : List (κ × ν)}

/-- BLOCK b OF w IS A MAP WITH JUST THESE ENTRIES, in the order in which they came. -/
def mapAt (w : World) (b : Nat) (ek : κ → Value) (ev : ν → Value) (m : List (κ × ν)) : Prop :=
  ∃ es clock, w.heap[b]? = some (.map es clock) ∧ Stamped es clock ∧ es.toList.map (fun e => (e.key, e.val)) = m.map (fun x => (ek x.1, ev x.2))

theorem mapAt.lt (h : mapAt w b ek ev m) : b < w.heap.size := by
  obtain ⟨es, clock, hb, _⟩ := h
  exact lt_of_block hb
theorem mapAt.kept {w' : World} (h : mapAt w b ek ev m) (hb : w'.heap[b]? = w.heap[b]?) : mapAt w' b ek ev m := by
  obtain ⟨es, clock, h1, h2⟩ := h
  exact ⟨es, clock, hb.trans h1, h2⟩
theorem mapAt.fr {S : Nat → Prop} {w' : World} (h : mapAt w b ek ev m) (f : Fr S w w') (hn : ¬ S b) : mapAt w' b ek ev m := h.kept (f.block b h.lt hn)
theorem mapAt.alloc (h : mapAt w b ek ev m) (o : Obj) : mapAt (w.alloc o) b ek ev m := h.kept (Below.heap_alloc _ _ _ h.lt)
theorem mapAt.setCell (h : mapAt w b ek ev m) {a : Addr} (hne : b ≠ a.block) (v : Value) : mapAt (w.setCell a v) b ek ev m := h.kept (Below.heap_setCell _ _ _ _ hne)
theorem mapAt_made (w : World) (ek : κ → Value) (ev : ν → Value) : mapAt (w.alloc (.map #[] 0)) w.heap.size ek ev [] := ⟨#[], 0, (MapKept.heap_alloc w _).1, stamped_empty 0, rfl⟩

theorem mapAt_keys {es : Array MapEntry} (h : es.toList.map (fun e => (e.key, e.val)) = m.map (fun x => (ek x.1, ev x.2))) : es.toList.map (·.key) = m.map (fun x => ek x.1) := by
  have := congrArg (List.map Prod.fst) h
  simpa [Function.comp_def] using this
theorem mapAt.nodup (h : mapAt w b ek ev m) : (m.map (fun x => ek x.1)).Nodup := by
  obtain ⟨es, clock, _, hs, he⟩ := h
  rw [← mapAt_keys he]; exact hs.2.2
theorem mapAt.keysNodup (h : mapAt w b ek ev m) : (keys m).Nodup := by
  have := h.nodup
  have e : m.map (fun x => ek x.1) = (keys m).map ek := by simp [keys]
  rw [e] at this
  exact (List.pairwise_map.1 this).imp (fun hne e => hne (by rw [e]))

theorem entries_isKey {es : Array MapEntry} (h : es.toList.map (fun e => (e.key, e.val)) = m.map (fun x => (ek x.1, ev x.2))) : ∀ e ∈ es.toList, ∃ b, e.key = ek b := by
  intro e he
  have : e.key ∈ es.toList.map (·.key) := List.mem_map.2 ⟨e, he, rfl⟩
  rw [mapAt_keys h] at this
  obtain ⟨x, _, hx⟩ := List.mem_map.1 this
  exact ⟨x.1, hx.symm⟩

variable [DecidableEq κ] {k e t : TypeId}

omit [DecidableEq κ] in
theorem map_erase {α β : Type} (f : α → β) : ∀ (l : List α) (j : Nat), (l.eraseIdx j).map f = (l.map f).eraseIdx j
  | [], _ => rfl
  | _ :: _, 0 => rfl
  | a :: r, j + 1 => by simp [map_erase f r j]

/-- What is found is what 'look' says; and where. -/
theorem find_look (K : KeyE P k ek) {es : Array MapEntry} (hs : es.toList.map (fun e => (e.key, e.val)) = m.map (fun x => (ek x.1, ev x.2))) (a : κ) :
    ((Instr.findKey k (ek a) es.toList).run P w = .ok none w ∧ look m a = none ∧ ∀ e ∈ es.toList, e.key ≠ ek a) ∨
    ∃ j v e0, (Instr.findKey k (ek a) es.toList).run P w = .ok (some (j, ev v)) w ∧ m[j]? = some (a, v) ∧ es.toList[j]? = some e0 ∧ e0.key = ek a ∧ e0.val = ev v := by
  rcases K.find w a es.toList (entries_isKey hs) with ⟨h1, h2⟩ | ⟨j, e0, h1, h2, h3⟩
  · refine Or.inl ⟨h1, look_none.2 (fun hk => ?_), h2⟩
    obtain ⟨x, hx, rfl⟩ := List.mem_map.1 hk
    have : ek x.1 ∈ es.toList.map (·.key) := by rw [mapAt_keys hs]; exact List.mem_map.2 ⟨x, hx, rfl⟩
    obtain ⟨y, hy, e⟩ := List.mem_map.1 this
    exact h2 y hy e
  · have h4 : (m.map (fun x => (ek x.1, ev x.2)))[j]? = some (e0.key, e0.val) := by rw [← hs]; simp [h2]
    rw [List.getElem?_map] at h4
    cases hm : m[j]? with
    | none => rw [hm] at h4; cases h4
    | some x =>
      rw [hm] at h4
      simp only [Option.map_some, Option.some.injEq, Prod.mk.injEq] at h4
      obtain ⟨e1, e2⟩ := h4
      rw [h3] at e1
      have := K.inj e1
      subst this
      exact Or.inr ⟨j, x.2, e0, by rw [← e2] at h1; exact h1, hm, h2, h3, e2.symm⟩

theorem look_at (hn : (keys m).Nodup) {j : Nat} {a : κ} {v : ν} (h : m[j]? = some (a, v)) : look m a = some v := look_of_mem hn (List.mem_of_getElem? h)

/-- 'v, ok := m[k]'. -/
theorem mapAt.lookup (h : mapAt w b ek ev m) (K : KeyE P k ek) (ht : P.underlying t = some (.map k e)) {z : Value} (hz : (zeroValue e).run P w = .ok z w) (a : κ) (c : Bool) :
    (Instr.lookup t (.map (some b)) (ek a) c).run P w = .ok (if c then .tuple #[((look m a).map ev).getD z, .bool (look m a).isSome] else ((look m a).map ev).getD z) w := by
  have hn := h.keysNodup
  obtain ⟨es, clock, hb, hs, he⟩ := h
  rcases find_look (w := w) K he a with ⟨h1, h2, _⟩ | ⟨j, v, e0, h1, h2, _⟩
  · rw [h2]
    simp [Instr.lookup, run_underlying ht, MapKept.run_getObj_map hb, K.check w _ a, h1, hz, Result.andThen]
  · rw [look_at hn h2]
    simp [Instr.lookup, run_underlying ht, MapKept.run_getObj_map hb, K.check w _ a, h1, Result.andThen]
omit [DecidableEq κ] in
/-- .. of no map. -/
theorem lookup_nil (K : KeyE P k ek) (ht : P.underlying t = some (.map k e)) {z : Value} (hz : (zeroValue e).run P w = .ok z w) (a : κ) (c : Bool) :
    (Instr.lookup t (.map none) (ek a) c).run P w = .ok (if c then .tuple #[z, .bool false] else z) w := by
  rcases K.find w a [] (by simp) with ⟨h1, _⟩ | ⟨j, e0, _, h2, _⟩
  · simp [Instr.lookup, run_underlying ht, K.check w _ a, h1, hz, Result.andThen]
  · simp at h2

theorem fr_setBlock {es : Array MapEntry} {clock : Nat} (hb : w.heap[b]? = some (.map es clock)) (o : Obj) : Fr (· = b) w (ChangeMaps.setBlock w b o) :=
  ⟨rfl, rfl, rfl, by simp [ChangeMaps.setBlock], fun i _ hi => ChangeMaps.heap_setBlock_other hb _ (fun e => hi (by rw [e]))⟩

/-- 'm[k] = v'. -/
theorem mapAt.store (h : mapAt w b ek ev m) (K : KeyE P k ek) (ht : P.underlying t = some (.map k e)) (a : κ) (v : ν) :
    ∃ w', (Instr.mapUpdate t (.map (some b)) (ek a) (ev v)).run P w = .ok () w' ∧ mapAt w' b ek ev (put m a v) ∧ Fr (· = b) w w' ∧ w'.heap.size = w.heap.size := by
  have hn := h.keysNodup
  obtain ⟨es, clock, hb, hs, he⟩ := h
  rcases find_look (w := w) K he a with ⟨h1, h2, h3⟩ | ⟨j, u, e0, h1, h2, h4, h5, h6⟩
  · refine ⟨ChangeMaps.setBlock w b (.map (es.push ⟨ek a, ev v, clock⟩) (clock + 1)), ?_, ⟨_, _, ChangeMaps.heap_setBlock_same hb _, stamped_push hs h3, ?_⟩, fr_setBlock hb _, by simp [ChangeMaps.setBlock]⟩
    · simp [Instr.mapUpdate, run_underlying ht, MapKept.run_getObj_map hb, K.check w false a, h1, MapKept.run_setObj_map _ hb, Result.andThen, ChangeMaps.setBlock]
    · have hp : put m a v = m ++ [(a, v)] := by
        have : ∀ l : List (κ × ν), look l a = none → put l a v = l ++ [(a, v)] := by
          intro l
          induction l with
          | nil => intro _; rfl
          | cons x r ih =>
            obtain ⟨c, d⟩ := x
            intro hl
            unfold look at hl
            by_cases ec : c = a
            · rw [if_pos ec] at hl; cases hl
            · rw [if_neg ec] at hl; unfold put; rw [if_neg ec, ih hl]; rfl
        exact this m h2
      rw [hp]
      simp [he]
  · have hj : es[j]? = some e0 := by simpa using h4
    have hkeyf : ∀ e', es[j]? = some e' → ({ e' with key := ek a, val := ev v } : MapEntry).key = e'.key := fun e' he' => by rw [hj] at he'; cases he'; exact h5.symm
    refine ⟨ChangeMaps.setBlock w b (.map (es.modify j fun e => { e with key := ek a, val := ev v }) clock), ?_, ⟨_, _, ChangeMaps.heap_setBlock_same hb _, stamped_modify hs _ _ (fun _ _ => rfl) (fun e' _ he' => hkeyf e' he'), ?_⟩, fr_setBlock hb _, by simp [ChangeMaps.setBlock]⟩
    · simp [Instr.mapUpdate, run_underlying ht, MapKept.run_getObj_map hb, K.check w false a, h1, hj, h5, K.stays w a, MapKept.run_setObj_map _ hb, Result.andThen, ChangeMaps.setBlock]
    · have hp : put m a v = m.set j (a, v) := by
        have : ∀ (l : List (κ × ν)) (j : Nat), (keys l).Nodup → l[j]? = some (a, u) → put l a v = l.set j (a, v) := by
          intro l
          induction l with
          | nil => intro j _ hl; simp at hl
          | cons x r ih =>
            obtain ⟨c, d⟩ := x
            intro j hnl hl
            obtain ⟨q1, q2⟩ := List.nodup_cons.1 hnl
            unfold put
            cases j with
            | zero => simp at hl; rw [if_pos hl.1, hl.1]; rfl
            | succ j =>
              simp at hl
              have : c ≠ a := fun ec => q1 (List.mem_map.2 ⟨(a, u), List.mem_of_getElem? hl, ec.symm⟩)
              rw [if_neg this, ih j q2 hl]; rfl
        exact this m j hn h2
      rw [hp, List.map_set, ← he]
      have hlist : (es.modify j (fun e' => { e' with key := ek a, val := ev v })).toList = es.toList.set j { e0 with key := ek a, val := ev v } := by rw [Array.toList_modify, ChangeMaps.modify_eq_set _ _ _ _ h4]
      rw [hlist, List.map_set]

theorem put_none {m : List (κ × ν)} {a : κ} (v : ν) (h : look m a = none) : put m a v = m ++ [(a, v)] := by
  induction m with
  | nil => rfl
  | cons x r ih =>
    obtain ⟨c, d⟩ := x
    unfold look at h
    by_cases ec : c = a
    · rw [if_pos ec] at h; cases h
    · rw [if_neg ec] at h; unfold put; rw [if_neg ec, ih h]; rfl
theorem put_at {m : List (κ × ν)} {a : κ} {u : ν} (v : ν) {j : Nat} (hn : (keys m).Nodup) (h : m[j]? = some (a, u)) : put m a v = m.set j (a, v) := by
  induction m generalizing j with
  | nil => simp at h
  | cons x r ih =>
    obtain ⟨c, d⟩ := x
    obtain ⟨q1, q2⟩ := List.nodup_cons.1 hn
    unfold put
    cases j with
    | zero => simp at h; rw [if_pos h.1, h.1]; rfl
    | succ j =>
      simp at h
      have : c ≠ a := fun ec => q1 (List.mem_map.2 ⟨(a, u), List.mem_of_getElem? h, ec.symm⟩)
      rw [if_neg this, ih q2 h]; rfl

end

/-! ### the world forgotten but for what is said of it -/
theorem wp_at {P : Program} {c : Code} {Q : Exit → Act → World → Prop} {a : Act} {w : World} (φ : World → Prop) (hφ : φ w) (h : ∀ W, φ W → c.wp P Q a W) : c.wp P Q a w := h w hφ
theorem wpList_at {P : Program} {ops : Array Oper} {l : List Oper} {Q : Exit → Act → World → Prop} {a : Act} {w : World} (φ : World → Prop) (hφ : φ w) (h : ∀ W, φ W → wpList P ops Q l a W) : wpList P ops Q l a w := h w hφ

/-- A block's cells, in whatever world has come of W: rules for the walk, under the frame. -/
theorem Fr.rules {S : Nat → Prop} {W : World} {b : Nat} {cs : Array Value} {t : TypeId} (h : W.heap[b]? = some (.cells cs t (0, 0))) (hn : ¬ S b) :
    (∀ w' i, Fr S W w' → w'.cell? ⟨b, i, none⟩ = cs[i]?) ∧ (∀ w' i, Fr S W w' → w'.frozen? ⟨b, i, none⟩ = false) :=
  ⟨fun _ i f => blk_cell (f.at h hn) i, fun _ i f => blk_free (f.at h hn) i⟩

/-! ### a scope with jumps ahead to one label -/
/-- As Q; by a goto to label l: what stands behind the label goes on to Q. -/
def fwd (P : Program) (l : Nat) (rest : Code) (Q : Exit → Act → World → Prop) : Exit → Act → World → Prop
  | .goto l', a, w => l' = l ∧ rest.wp P (Exit.noGoto Q) a w
  | e, a, w => Q e a w

section
variable {P : Program} {l : Nat} {rest : Code} {Q : Exit → Act → World → Prop} {a : Act} {w : World}
theorem fwd_ret : fwd P l rest Q .ret a w = Q .ret a w := rfl
theorem fwd_normal : fwd P l rest Q .normal a w = Q .normal a w := rfl

theorem wp_fwd {c : Code} (hf : findLabel c l = some rest) (h : c.wp P (fwd P l rest Q) a w) : (Code.scope c).wp P Q a w := by
  intro b k cs
  have hg : gotoIn l (.inScope c :: k) = some (.code rest :: .inScope c :: k) := by simp [gotoIn, hf]
  obtain ⟨e, a₁, w₁, hq, harr⟩ := h b (.inScope c :: k) cs
  cases e with
  | normal => exact ⟨.normal, a₁, w₁, hq, .head step_scope (Steps.trans harr (.one step_inScope))⟩
  | exit id => exact ⟨.exit id, a₁, w₁, hq, fun k' hk => .head step_scope (harr k' (by simp [exitTo, hk]))⟩
  | goto l' =>
    obtain ⟨rfl, hr⟩ := hq
    obtain ⟨e₂, a₂, w₂, hq₂, harr₂⟩ := hr b (.inScope c :: k) cs
    have hs := Steps.trans (.one step_scope) (harr _ hg)
    cases e₂ with
    | normal => exact ⟨.normal, a₂, w₂, hq₂, Steps.trans hs (Steps.trans harr₂ (.one step_inScope))⟩
    | exit id => exact ⟨.exit id, a₂, w₂, hq₂, fun k' hk => Steps.trans hs (harr₂ k' (by simp [exitTo, hk]))⟩
    | goto l => exact hq₂.elim
    | ret => exact ⟨_, a₂, w₂, hq₂, .of_steps hs harr₂⟩
    | panic ch => exact ⟨_, a₂, w₂, hq₂, .of_steps hs harr₂⟩
    | outgrown => exact ⟨_, a₂, w₂, hq₂, .of_steps hs harr₂⟩
  | ret => exact ⟨_, a₁, w₁, hq, .of_steps (.one step_scope) harr⟩
  | panic ch => exact ⟨_, a₁, w₁, hq, .of_steps (.one step_scope) harr⟩
  | outgrown => exact ⟨_, a₁, w₁, hq, .of_steps (.one step_scope) harr⟩
end

end Go.Proofs.YtoakhhilmnfpkaaGreatDoor.L
