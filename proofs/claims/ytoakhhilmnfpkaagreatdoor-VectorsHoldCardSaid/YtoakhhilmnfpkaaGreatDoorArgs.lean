/- Arguments that came in: integers and bools laid flat (numbers, structs and arrays of them, slices of such): what lies in memory. -/
import Derived.Test.YtoakhhilmnfpkaaGreatDoorLib
import Derived.ProofKit
import Derived.Deep.Slices
import Derived.SizedLaws
namespace Go.Proofs.YtoakhhilmnfpkaaGreatDoor.L
open Go.RowKit Go.ChangeShapes Go.WideShapes Go.Deep

/-- The kinds of cells that are taken. -/
inductive CK where
  | int (k : IntKind)
  | bool

def CK.ok : CK → Value → Prop
  | .int k, v => ∃ a, v = .int k a ∧ (Lit.int k a).wf = true
  | .bool, v => ∃ b, v = .bool b

/-- Cells of those kinds, one by one. -/
def cksOk : List CK → List Value → Prop
  | [], [] => True
  | k :: ks, v :: vs => k.ok v ∧ cksOk ks vs
  | _, _ => False

theorem cksOk_append : ∀ {ks ks' : List CK} {vs vs' : List Value}, cksOk ks vs → cksOk ks' vs' → cksOk (ks ++ ks') (vs ++ vs')
  | [], _, [], _, _, h' => h'
  | _ :: _, _, _ :: _, _, h, h' => ⟨h.1, cksOk_append h.2 h'⟩
  | [], _, _ :: _, _, h, _ => h.elim
  | _ :: _, _, [], _, h, _ => h.elim

theorem cksOk_length : ∀ {ks : List CK} {vs : List Value}, cksOk ks vs → vs.length = ks.length
  | [], [], _ => rfl
  | _ :: _, _ :: _, h => by simp [cksOk_length h.2]
  | [], _ :: _, h => h.elim
  | _ :: _, [], h => h.elim

/-- The fields, one behind the other. -/
def flatF (r : TypeId → Option (List CK)) (c : TypeId → Nat) : List Field → Nat → Option (List CK)
  | [], _ => some []
  | f :: fs, off =>
    match r f.type with
    | some ks => if f.offset = off ∧ c f.type = ks.length then (flatF r c fs (off + ks.length)).map (ks ++ ·) else none
    | none => none

/-- What a type's cells are, if they are integers and bools. -/
def flatK (P : Program) : Nat → TypeId → Option (List CK)
  | 0, _ => none
  | n + 1, t =>
    match P.underlying t with
    | some .bool => some [.bool]
    | some (.int k) => some [.int k]
    | some (.struct fs) => match flatF (flatK P n) P.cellsOf fs.toList 0 with | some ks => if P.cellsOf t = ks.length then some ks else none | none => none
    | some (.array m e) => match flatK P n e with | some ks => if P.cellsOf e = ks.length ∧ P.cellsOf t = m * ks.length then some ((List.replicate m ks).flatten) else none | none => none
    | _ => none

section
variable {H : Type} {enc : TypeId × Value → H} {P : Program} {w : World} {base : Nat} {spare : Nat → Bool} {held : Bool}

theorem mapM_cons_some {α β : Type} {f : α → Option β} {x : α} {l : List α} {r : List β} (h : (x :: l).mapM f = some r) : ∃ y ys, f x = some y ∧ l.mapM f = some ys ∧ r = y :: ys := by
  rw [List.mapM_cons] at h
  cases hx : f x with
  | none => simp [hx] at h
  | some y =>
    cases hl : l.mapM f with
    | none => simp [hx, hl] at h
    | some ys =>
      simp [hx, hl] at h
      exact ⟨y, ys, rfl, rfl, h.symm⟩

theorem flatF_ok {r : TypeId → Option (List CK)} {g : TypeId → List Value → Option (DataW H × List MemPlace)} (hr : ∀ t ks cs x, r t = some ks → g t cs = some x → cksOk ks cs) (cs : List Value) :
    ∀ (fs : List Field) (off : Nat) (ks : List CK) (xs : List (DataW H × List MemPlace)), flatF r P.cellsOf fs off = some ks → fs.mapM (fun f => g f.type ((cs.drop f.offset).take (P.cellsOf f.type))) = some xs → cs.length ≤ off + ks.length → cksOk ks (cs.drop off) := by
  intro fs
  induction fs with
  | nil =>
    intro off ks xs h _ hl
    cases h
    rw [List.drop_eq_nil_of_le (by simpa using hl)]
    trivial
  | cons f fs ih =>
    intro off ks xs h hm hl
    obtain ⟨y, ys, h1, h2, rfl⟩ := mapM_cons_some hm
    unfold flatF at h
    cases hk : r f.type with
    | none => rw [hk] at h; cases h
    | some ks1 =>
      rw [hk] at h
      simp only at h
      split at h
      · rename_i hc
        obtain ⟨rfl, hc2⟩ := hc
        cases hrest : flatF r P.cellsOf fs (f.offset + ks1.length) with
        | none => rw [hrest] at h; cases h
        | some ks2 =>
          rw [hrest] at h
          cases h
          have q1 := hr _ _ _ _ hk h1
          rw [hc2] at q1
          have q2 := ih _ _ _ hrest h2 (by simp at hl; omega)
          have := cksOk_append q1 q2
          rw [show cs.drop (f.offset + ks1.length) = (cs.drop f.offset).drop ks1.length from by rw [List.drop_drop], List.take_append_drop] at this
          exact this
      · cases h

theorem flatA_ok {n1 : Nat} {ks1 : List CK} (cs : List Value) {g : List Value → Option (DataW H × List MemPlace)} (hr : ∀ cs x, g cs = some x → cksOk ks1 cs) :
    ∀ (m off : Nat) (xs : List (DataW H × List MemPlace)), (List.range' off m).mapM (fun i => g ((cs.drop (i * n1)).take n1)) = some xs → cs.length ≤ (off + m) * n1 → cksOk ((List.replicate m ks1).flatten) (cs.drop (off * n1)) := by
  intro m
  induction m with
  | zero =>
    intro off xs _ hl
    rw [List.drop_eq_nil_of_le (by simpa using hl)]
    trivial
  | succ m ih =>
    intro off xs h hl
    rw [List.range'_succ] at h
    obtain ⟨y, ys, h1, h2, rfl⟩ := mapM_cons_some h
    have q1 := hr _ _ h1
    have q2 := ih (off + 1) ys h2 (by rw [show off + 1 + m = off + (m + 1) from by omega]; exact hl)
    have := cksOk_append q1 q2
    rw [show cs.drop ((off + 1) * n1) = (cs.drop (off * n1)).drop n1 from by rw [List.drop_drop, Nat.add_mul, Nat.one_mul], List.take_append_drop] at this
    simpa [List.replicate_succ] using this

theorem flat_ok : ∀ (m n : Nat) (t : TypeId) (ks : List CK) (cs : List Value) (x : DataW H × List MemPlace), flatK P m t = some ks → DataW.trod enc P w base spare held n t cs = some x → cksOk ks cs := by
  intro m
  induction m with
  | zero => intro n t ks cs x h _; cases h
  | succ m ih =>
    intro n t ks cs x h hx
    cases n with
    | zero => cases hx
    | succ n =>
      rw [DataW.trod_step] at hx
      unfold flatK at h
      unfold DataW.trodStep at hx
      cases hu : P.underlying t with
      | none => rw [hu] at h; cases h
      | some d =>
        rw [hu] at h hx
        cases d with
        | bool =>
          cases h
          simp only at hx
          split at hx <;> first | cases hx | skip
          all_goals first | (simp_all; done) | skip
          all_goals first | exact ⟨⟨_, rfl⟩, trivial⟩ | skip
        | int k =>
          cases h
          simp only at hx
          split at hx <;> simp_all
          rename_i k' a _
          obtain ⟨⟨rfl, hw⟩, _⟩ := hx
          exact ⟨⟨_, rfl, hw⟩, trivial⟩
        | struct fs =>
          simp only at h hx
          cases hf : flatF (flatK P m) P.cellsOf fs.toList 0 with
          | none => rw [hf] at h; cases h
          | some ks1 =>
            rw [hf] at h
            simp only at h
            split at h
            · rename_i hc
              cases h
              split at hx
              · rename_i hcl
                obtain ⟨xs, hxs, _⟩ := Option.map_eq_some_iff.1 hx
                have := flatF_ok (P := P) (r := flatK P m) (g := DataW.trod enc P w base spare held n) (fun t ks cs x => ih n t ks cs x) cs fs.toList 0 ks xs hf hxs (by omega)
                simpa using this
              · cases hx
            · cases h
        | array q e =>
          simp only at h hx
          cases hf : flatK P m e with
          | none => rw [hf] at h; cases h
          | some ks1 =>
            rw [hf] at h
            simp only at h
            split at h
            · rename_i hc
              cases h
              split at hx
              · rename_i hcl
                obtain ⟨xs, hxs, _⟩ := Option.map_eq_some_iff.1 hx
                rw [hc.1, List.range_eq_range'] at hxs
                have := flatA_ok (n1 := ks1.length) cs (g := DataW.trod enc P w base spare held n e) (fun cs x => ih n e ks1 cs x hf) q 0 xs hxs (by rw [hcl, hc.2]; simp)
                simpa using this
              · cases hx
            · cases h
        | _ => cases h

/-- A list that lies in memory, element by element, each of sz cells. -/
def RowAt {α : Type} (w : World) (A : Option Addr) (sz : Nat) (en : α → List Value) (l : List α) : Prop :=
  l = [] ∨ ∃ b off, A = some ⟨b, off, none⟩ ∧ b < w.heap.size ∧ ∀ (i : Nat) (x : α), l[i]? = some x → ∀ (j : Nat) (v : Value), (en x)[j]? = some v → w.cell? ⟨b, off + (i * sz + j), none⟩ = some v

theorem RowAt.fr {α : Type} {w w' : World} {A : Option Addr} {sz : Nat} {en : α → List Value} {l : List α} (h : RowAt w A sz en l) (hf : Below w.heap.size w w') : RowAt w' A sz en l := by
  rcases h with h | ⟨b, off, hA, hb, hc⟩
  · exact .inl h
  · exact .inr ⟨b, off, hA, Nat.lt_of_lt_of_le hb hf.size, fun i x hi j v hj => (hf.cell (p := ⟨b, _, none⟩) hb).trans (hc i x hi j v hj)⟩

theorem addr_add (b off i : Nat) : (⟨b, off, none⟩ : Addr).add i = ⟨b, off + i, none⟩ := by
  unfold Addr.add
  split <;> simp_all

/-- A slice of such elements, opened: as a list of α. -/
theorem open_rows {α : Type} {T e : TypeId} {m len cap : Nat} {A : Option Addr} {d : DataW H} {ps : List MemPlace} {ks : List CK} {en : α → List Value} {de : List Value → α} {wf : α → Prop}
    (ht : P.underlying T = some (.slice e)) (hf : flatK P m e = some ks) (hc : P.cellsOf e = ks.length) (h1 : 1 ≤ ks.length) (hd : ∀ cs, cksOk ks cs → en (de cs) = cs ∧ wf (de cs))
    (h : DataW.Trod enc P w 0 (fun _ => true) held T (.slice A len cap) d ps) : ∃ l : List α, l.length = len ∧ len ≤ cap ∧ cap ≤ maxLen ∧ (∀ x ∈ l, wf x) ∧ RowAt w A ks.length en l := by
  obtain ⟨fuel, hx⟩ := h
  rcases open_slice ht (by simpa [Value.cells] using hx) with ⟨h0, _⟩ | ⟨a, len', cap', mm, n, D, Pl, h0, _, hl, hm, hmm, _, hel⟩
  · simp at h0
    obtain ⟨rfl, rfl, rfl⟩ := h0
    exact ⟨[], rfl, Nat.le_refl _, by unfold maxLen; omega, by simp, .inl rfl⟩
  · simp at h0
    obtain ⟨rfl, rfl, rfl⟩ := h0
    simp only [if_true] at hmm
    have key : ∀ i, i < mm → ∃ cs, cksOk ks cs ∧ ∀ j, j < ks.length → w.cell? (a.add (i * ks.length + j)) = cs[j]? := by
      intro i hi
      obtain ⟨cs, hcs, htr⟩ := hel i hi
      rw [hc] at hcs
      obtain ⟨_, _, hcell⟩ := World.cells?_some hcs
      refine ⟨cs, flat_ok m n e ks cs _ hf htr, fun j hj => ?_⟩
      rw [← Deep.add_add]
      exact hcell j hj
    obtain ⟨C, hC⟩ := choose_lt (α := List Value) key
    refine ⟨(List.range len).map (fun i => de (C i)), by simp, hl, hm, ?_, ?_⟩
    · intro x hx
      obtain ⟨i, hi, rfl⟩ := List.mem_map.1 hx
      exact (hd _ (hC i (by have := List.mem_range.1 hi; omega)).1).2
    · by_cases h0 : len = 0
      · subst h0; exact .inl rfl
      · have h00 := (hC 0 (by omega)).2 0 (by omega)
        have hlen := cksOk_length (hC 0 (by omega)).1
        obtain ⟨b, off, sp⟩ := a
        have hsp : sp = none := by
          cases sp with
          | none => rfl
          | some s =>
            have e1 : (C 0)[0]? = some ((C 0)[0]'(by omega)) := List.getElem?_eq_getElem (by omega)
            rw [e1] at h00
            unfold World.cell? at h00
            split at h00 <;> simp [Addr.add] at h00
        subst hsp
        refine .inr ⟨b, off, rfl, ?_, ?_⟩
        · have e1 : (C 0)[0]? = some ((C 0)[0]'(by omega)) := List.getElem?_eq_getElem (by omega)
          rw [e1, addr_add] at h00
          exact World.block_lt_of_cell? w _ h00
        · intro i x hi j v hj
          have hi' : i < len := by
            rcases Nat.lt_or_ge i len with h | h
            · exact h
            · rw [List.getElem?_eq_none (by simpa using h)] at hi; cases hi
          have e1 : x = de (C i) := by
            rw [List.getElem?_map, List.getElem?_range hi'] at hi
            exact (Option.some.inj hi).symm
          subst e1
          rw [(hd _ (hC i (by omega)).1).1] at hj
          have hj' : j < ks.length := by
            rcases Nat.lt_or_ge j ks.length with h | h
            · exact h
            · rw [List.getElem?_eq_none (by rw [cksOk_length (hC i (by omega)).1]; exact h)] at hj; cases hj
          have := (hC i (by omega)).2 j hj'
          rw [hj] at this
          rw [← this, addr_add]

/-- A value that is laid flat (a struct, an array by value). -/
theorem open_flat {T : TypeId} {m : Nat} {v : Value} {d : DataW H} {ps : List MemPlace} {ks : List CK} (hf : flatK P m T = some ks) (h : DataW.Trod enc P w 0 (fun _ => true) held T v d ps) : cksOk ks v.cells.toList := by
  obtain ⟨fuel, hx⟩ := h
  exact flat_ok m fuel T ks _ _ hf hx

end
end Go.Proofs.YtoakhhilmnfpkaaGreatDoor.L
