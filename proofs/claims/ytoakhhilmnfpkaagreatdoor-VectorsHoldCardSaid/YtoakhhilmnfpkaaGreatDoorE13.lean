/- The engine: rows whose elements hold slices. -/
import Derived.Test.YtoakhhilmnfpkaaGreatDoorE12
namespace Go.Proofs.YtoakhhilmnfpkaaGreatDoor.L
open Go.RowKit Go.MapKept Go.Maps

/-- What the elements' slices list: inner: an element's. -/
def nestR {α : Type} (inner : α → Res) (l : List α) : Res := manyR (l.map inner)
section
variable {α : Type} {inner : α → Res} {l m : List α} {w w0 w' : World} {S : Nat → Prop} {H G Gs : List Res}
theorem nest_p : (nestR inner l).p w ↔ ∀ x ∈ l, (inner x).p w := by
  constructor
  · intro h x hx; exact h _ (List.mem_map.2 ⟨x, hx, rfl⟩)
  · intro h o ho; obtain ⟨x, hx, rfl⟩ := List.mem_map.1 ho; exact h x hx
theorem nest_fp {b : Nat} : b ∈ (nestR inner l).fp ↔ ∃ x ∈ l, b ∈ (inner x).fp := by
  constructor
  · intro h; obtain ⟨o, ho, hb⟩ := List.mem_flatMap.1 h; obtain ⟨x, hx, rfl⟩ := List.mem_map.1 ho; exact ⟨x, hx, hb⟩
  · rintro ⟨x, hx, hb⟩; exact List.mem_flatMap.2 ⟨_, List.mem_map.2 ⟨x, hx, rfl⟩, hb⟩
theorem nest_at {x : α} (h : (nestR inner l).p w) (hx : x ∈ l) : (inner x).p w := nest_p.1 h x hx
/-- What hangs on blocks of pieces that are read. -/
theorem Ws.nestG (h : Ws w0 S H G w) (g : Res) (hp : g.p w) (hs : ∀ b ∈ g.fp, ∃ y ∈ G, b ∈ y.fp) : Ws w0 S H (g :: G) w :=
  h.addG g hp (fun b hb => by obtain ⟨y, hy, hb⟩ := hs b hb; exact h.glt y hy b hb) (fun r hr b hb hb' => by obtain ⟨y, hy, hb'⟩ := hs b hb'; exact h.gd y hy r hr b hb hb')
theorem Ws.nestAt (h : Ws w0 S H G w) (j : Nat) (hj : G[j]? = some (nestR inner l)) {x : α} (hx : x ∈ l) : Ws w0 S H (inner x :: G) w :=
  h.nestG _ (nest_at (h.getG j hj) hx) fun _ hb => ⟨_, List.mem_of_getElem? hj, nest_fp.2 ⟨x, hx, hb⟩⟩
theorem Ws.nestNil (h : Ws w0 S H G w) (inner : α → Res) : Ws w0 S H (nestR inner [] :: G) w := h.nestG _ (nest_p.2 (by simp)) fun b hb => by obtain ⟨x, hx, -⟩ := nest_fp.1 hb; cases hx
theorem Ws.nestSub (h : Ws w0 S H G w) (j : Nat) (hj : G[j]? = some (nestR inner l)) (hs : ∀ x ∈ m, x ∈ l) : Ws w0 S H (nestR inner m :: G) w :=
  h.nestG _ (nest_p.2 fun x hx => nest_at (h.getG j hj) (hs x hx)) fun b hb => by obtain ⟨x, hx, hc⟩ := nest_fp.1 hb; exact ⟨_, List.mem_of_getElem? hj, nest_fp.2 ⟨x, hs x hx, hc⟩⟩
theorem Ws.nestApp (h : Ws w0 S H G w) (i j : Nat) (hi : G[i]? = some (nestR inner l)) (hj : G[j]? = some (nestR inner m)) : Ws w0 S H (nestR inner (l ++ m) :: G) w :=
  h.nestG _ (nest_p.2 fun x hx => (List.mem_append.1 hx).elim (nest_at (h.getG i hi)) (nest_at (h.getG j hj))) fun b hb => by
    obtain ⟨x, hx, hc⟩ := nest_fp.1 hb
    rcases List.mem_append.1 hx with hx | hx
    · exact ⟨_, List.mem_of_getElem? hi, nest_fp.2 ⟨x, hx, hc⟩⟩
    · exact ⟨_, List.mem_of_getElem? hj, nest_fp.2 ⟨x, hx, hc⟩⟩
theorem Ws.nestCons (h : Ws w0 S H G w) (j : Nat) (hj : G[j]? = some (nestR inner l)) (u : α) (hp : (inner u).p w) (hs : ∀ b ∈ (inner u).fp, ∃ y ∈ G, b ∈ y.fp) : Ws w0 S H (nestR inner (u :: l) :: G) w :=
  h.nestG _ (nest_p.2 fun x hx => by
    rcases List.mem_cons.1 hx with rfl | hx
    · exact hp
    · exact nest_at (h.getG j hj) hx) fun b hb => by
    obtain ⟨x, hx, hc⟩ := nest_fp.1 hb
    rcases List.mem_cons.1 hx with rfl | hx
    · exact hs b hc
    · exact ⟨_, List.mem_of_getElem? hj, nest_fp.2 ⟨x, hx, hc⟩⟩
theorem Ws.nestSet (h : Ws w0 S H G w) (j : Nat) (hj : G[j]? = some (nestR inner l)) (k : Nat) (u : α) (hp : (inner u).p w) (hs : ∀ b ∈ (inner u).fp, ∃ y ∈ G, b ∈ y.fp) : Ws w0 S H (nestR inner (l.set k u) :: G) w :=
  h.nestG _ (nest_p.2 fun x hx => by
    rcases List.mem_or_eq_of_mem_set hx with hx | rfl
    · exact nest_at (h.getG j hj) hx
    · exact hp) fun b hb => by
    obtain ⟨x, hx, hc⟩ := nest_fp.1 hb
    rcases List.mem_or_eq_of_mem_set hx with hx | rfl
    · exact ⟨_, List.mem_of_getElem? hj, nest_fp.2 ⟨x, hx, hc⟩⟩
    · exact hs b hc
/-! where they come from -/
theorem nsrc_nil : (nestR inner []).src Gs w0 := fun b hb => by obtain ⟨x, hx, -⟩ := nest_fp.1 hb; cases hx
theorem nsrc_sub (h : (nestR inner l).src Gs w0) (hs : ∀ x ∈ m, x ∈ l) : (nestR inner m).src Gs w0 := fun b hb => by obtain ⟨x, hx, hc⟩ := nest_fp.1 hb; exact h b (nest_fp.2 ⟨x, hs x hx, hc⟩)
theorem nsrc_app (h : (nestR inner l).src Gs w0) (k : (nestR inner m).src Gs w0) : (nestR inner (l ++ m)).src Gs w0 := fun b hb => by
  obtain ⟨x, hx, hc⟩ := nest_fp.1 hb
  rcases List.mem_append.1 hx with hx | hx
  · exact h b (nest_fp.2 ⟨x, hx, hc⟩)
  · exact k b (nest_fp.2 ⟨x, hx, hc⟩)
theorem nsrc_cons {u : α} (k : (inner u).src Gs w0) (h : (nestR inner l).src Gs w0) : (nestR inner (u :: l)).src Gs w0 := fun b hb => by
  obtain ⟨x, hx, hc⟩ := nest_fp.1 hb
  rcases List.mem_cons.1 hx with rfl | hx
  · exact k b hc
  · exact h b (nest_fp.2 ⟨x, hx, hc⟩)
theorem nsrc_set {u : α} {k : Nat} (h : (nestR inner l).src Gs w0) (hu : (inner u).src Gs w0) : (nestR inner (l.set k u)).src Gs w0 := fun b hb => by
  obtain ⟨x, hx, hc⟩ := nest_fp.1 hb
  rcases List.mem_or_eq_of_mem_set hx with hx | rfl
  · exact h b (nest_fp.2 ⟨x, hx, hc⟩)
  · exact hu b hc
theorem nsrc_at {x : α} (h : (nestR inner l).src Gs w0) (hx : x ∈ l) : (inner x).src Gs w0 := fun b hb => h b (nest_fp.2 ⟨x, hx, hb⟩)
theorem nest_lt {sz : α → Nat} {A : α → Option Addr} {β : Type} {en : β → List Value} {L : α → List β} (h : (nestR (fun x => roR (A x) (sz x) en (L x)) l).p w) : ∀ b ∈ (nestR (fun x => roR (A x) (sz x) en (L x)) l).fp, b < w.heap.size := fun b hb => by
  obtain ⟨x, hx, hc⟩ := nest_fp.1 hb
  exact roR_lt (nest_at h hx) b hc
/-! of all elements -/
theorem all_app {p : α → Prop} (h : ∀ x ∈ l, p x) (k : ∀ x ∈ m, p x) : ∀ x ∈ l ++ m, p x := fun x hx => (List.mem_append.1 hx).elim (h x) (k x)
theorem all_cons {p : α → Prop} {u : α} (k : p u) (h : ∀ x ∈ l, p x) : ∀ x ∈ u :: l, p x := fun x hx => by
  rcases List.mem_cons.1 hx with rfl | hx
  · exact k
  · exact h x hx
theorem all_nil {p : α → Prop} : ∀ x ∈ ([] : List α), p x := by simp
theorem all_set {p : α → Prop} {u : α} {k : Nat} (h : ∀ x ∈ l, p x) (hu : p u) : ∀ x ∈ l.set k u, p x := fun x hx => by
  rcases List.mem_or_eq_of_mem_set hx with hx | rfl
  · exact h x hx
  · exact hu
theorem all_sub {p : α → Prop} (h : ∀ x ∈ l, p x) (hs : ∀ x ∈ m, x ∈ l) : ∀ x ∈ m, p x := fun x hx => h x (hs x hx)
theorem all_rep {p : α → Prop} {u : α} {n : Nat} (k : p u) : ∀ x ∈ List.replicate n u, p x := fun x hx => by rw [(List.mem_replicate.1 hx).2]; exact k
end
end Go.Proofs.YtoakhhilmnfpkaaGreatDoor.L
