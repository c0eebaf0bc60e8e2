/- The engine: a row that is made is new. -/
import Derived.Test.YtoakhhilmnfpkaaGreatDoorShare
import Derived.Test.YtoakhhilmnfpkaaGreatDoorE13
namespace Go.Proofs.YtoakhhilmnfpkaaGreatDoor.L
open Go.RowKit Go.MapKept Go.Maps

section
variable {P : Program} {ρ : Operand → Value} {Φ : Value → World → Prop} {w w0 : World} {S : Nat → Prop} {H G : List Res} {C : World → Prop}
variable {d : Option Tmp} {ty : TypeId} {pos : String} {aft : Array Edge} {g : Option (Nat × Bool)}
variable {α : Type} {E sz : Nat} {en : α → List Value}
theorem Runs.makeSliceN {T : TypeId} {x y : Operand} {n bytes : Nat} {z0 : Value} (z : α) (hx : ρ x = .int .i64 (n : Int)) (hy : ρ y = .int .i64 (n : Int)) (hT : P.underlying T = some (.slice E)) (hel : Elt P E sz en)
    (hinfo : (P.info? E).map (fun i => (i.zero, i.size, i.bytes)) = some (some z0, sz, bytes)) (hz : z0.cells.toList = en z) (hb : bytes * n ≤ 281474976710656) (hc : n * sz ≤ 16777216) (hn : n ≤ maxLen) (hW : Ws w0 S H G w)
    (next : ∀ b w', Ws w0 S (rowR E sz en (.slice (some ⟨b, 0, none⟩) n n) (List.replicate n z) :: H) G w' → w.heap.size ≤ b → Fr No w w' → Φ (.slice (some ⟨b, 0, none⟩) n n) w') : Runs P ρ ⟨d, .makeSlice T x y, ty, pos, aft, g⟩ w Φ := by
  obtain ⟨i0, hi, hz0, hz1, hz2⟩ := info_parts hinfo
  obtain ⟨w', h1, h2, h3⟩ := run_makeSlice_full (P := P) (w := w) w.heap.size T E i0 z0 sz hT hi hz0 hz1 .i64 .i64 n hc (by rw [hz2]; exact hb) hn (Nat.le_refl _)
  have he : (execOp ρ ⟨d, .makeSlice T x y, ty, pos, aft, g⟩).run P w = .ok (.value (.slice (some ⟨w.heap.size, 0, none⟩) n n)) w' := by
    show (do let r ← Instr.makeSlice T (ρ x) (ρ y); Pure.pure (Next.value r) : Sem Next).run P w = _
    rw [hx, hy, Sem.run_bind, h1]
    rfl
  unfold Runs
  rw [he]
  have hf : Fr No w w' := (Fr.refl No w).of_grown h3 (fun k e => by cases e)
  refine next _ w' (hW.addRow hf ?_) (Nat.le_refl _) hf
  rw [made_flat hel.len hel.pos hz] at h2
  simpa using h2
end
section
variable {P : Program} {ρ : Operand → Value} {C : World → Prop} {Φ : Value → World → Prop} {w w0 : World} {S : Nat → Prop} {H G : List Res}
variable {α β : Type} {E sz : Nat} {en : α → List Value}
theorem owns_new {v : Value} {l : List α} {base : Nat} (h : w.ownsRow base E sz v l.length (flat en l)) : ∀ b ∈ (rowR E sz en v l).fp, base ≤ b := fun b hb => by
  rcases h.2 with ⟨rfl, -⟩ | ⟨g, cap, cur, rfl, hb', hg, rest⟩
  · simp [rowR, Value.ownBlock] at hb
  · simp [rowR, Value.ownBlock] at hb; subst hb; exact hb'
theorem Runs.callRowN {o : Oper} {f : FuncId} {args : Array Value} {l : List α} (he : ∀ w, (execOp ρ o).run P w = .ok (.enter f args) w) (hW : Ws w0 S H G w) (hc : Calls P f args w (Fresh E sz en l w))
    (next : ∀ A c w', Ws w0 S (rowR E sz en (.slice A l.length c) l :: H) G w' → l.length ≤ c → Fr No w w' → (∀ b ∈ (roR A sz en l).fp, w0.heap.size ≤ b) → Φ (.slice A l.length c) w') : Runs P ρ o w Φ :=
  Runs.call he hc fun e w' ⟨v, h1, h2, h3⟩ => by
    have hn := owns_new h2
    obtain ⟨A, c, rfl, h4, -⟩ := owns_form h2
    exact ⟨_, h1, next A c w' (hW.addRow h3 h2) h4 h3 (fun b hb => Nat.le_trans hW.fr.size (hn b (rowR_fp b hb)))⟩
/-- A row that is new, handed back beside an object that was turned. -/
theorem Ws.outRowN (h : Ws w0 S H G w) (i : Nat) {A : Option Addr} {n c : Nat} {l : List α} (hi : H[i]? = some (rowR E sz en (.slice A n c) l)) (hlen : ∀ x, (en x).length = sz) (hn : ∀ b ∈ (roR A sz en l).fp, w0.heap.size ≤ b) (j : Nat) {o : Res} (hj : H[j]? = some o) (hne : i ≠ j) :
    (roR A sz en l).from_ [] w0 w ∧ ∀ b ∈ o.fp, b ∉ (roR A sz en l).fp := by
  have hm := List.mem_of_getElem? hi
  obtain ⟨il, ie⟩ := List.getElem?_eq_some_iff.1 hi
  obtain ⟨jl, je⟩ := List.getElem?_eq_some_iff.1 hj
  have pw := List.pairwise_iff_getElem.1 h.nd
  have apart : ∀ b ∈ (roR A sz en l).fp, b ∉ o.fp := fun b hb hb' => by
    have hb := rowR_fp (E := E) (n := n) (c := c) b hb
    rcases Nat.lt_or_gt_of_ne hne with q | q
    · exact pw i j il jl q b (by rw [ie]; exact hb) (by rw [je]; exact hb')
    · exact pw j i jl il q b (by rw [je]; exact hb') (by rw [ie]; exact hb)
  exact ⟨⟨rowR_ro (h.get i hi) hlen, fun b hb => ⟨h.lt _ hm b (rowR_fp b hb), .inr (hn b hb)⟩⟩, fun b hb hb' => apart b hb' hb⟩
/-- A row goes to those that are listed. -/
theorem Ws.nestH {K : List Res} {inner : β → Res} {L L' : List β} {A : Option Addr} {n c : Nat} {l : List α} (h : Ws w0 S (rowR E sz en (.slice A n c) l :: nestR inner L :: K) G w) (u : β) (hu : inner u = roR A sz en l) (hlen : ∀ x, (en x).length = sz) (hs : ∀ x ∈ L', x = u ∨ x ∈ L) : Ws w0 S (nestR inner L' :: K) G w := by
  have h0 := h.get 0 rfl
  have h1 := h.get 1 rfl
  have hl0 := h.lt _ (List.mem_of_getElem? (i := 0) rfl)
  have hl1 := h.lt _ (List.mem_of_getElem? (i := 1) rfl)
  have hp : Ws w0 S (allR [rowR E sz en (.slice A n c) l, nestR inner L] :: K) G w := Ws.pack (L := [rowR E sz en (.slice A n c) l, nestR inner L]) h
  refine hp.turn 0 rfl (Fr.refl _ w) (r' := nestR inner L') (nest_p.2 fun x hx => ?_) (fun b hb => ?_) rfl
  · rcases hs x hx with rfl | q
    · rw [hu]; exact rowR_ro h0 hlen
    · exact nest_at h1 q
  · obtain ⟨x, hx, hb⟩ := nest_fp.1 hb
    rcases hs x hx with rfl | q
    · rw [hu] at hb; have hb := rowR_fp (E := E) (n := n) (c := c) b hb; exact ⟨.inl (mem_allR.2 ⟨_, .head _, hb⟩), hl0 b hb⟩
    · have hb : b ∈ (nestR inner L).fp := nest_fp.2 ⟨x, q, hb⟩; exact ⟨.inl (mem_allR.2 ⟨_, .tail _ (.head _), hb⟩), hl1 b hb⟩
end
end Go.Proofs.YtoakhhilmnfpkaaGreatDoor.L
