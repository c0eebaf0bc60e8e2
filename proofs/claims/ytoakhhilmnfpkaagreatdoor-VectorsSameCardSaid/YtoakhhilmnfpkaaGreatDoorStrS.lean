/- An argument that is a struct of two numbers and a slice. -/
import Derived.Test.YtoakhhilmnfpkaaGreatDoorArgs
import Derived.WideShapes
namespace Go.Proofs.YtoakhhilmnfpkaaGreatDoor.L
open Go.RowKit Go.ChangeShapes Go.WideShapes Go.Deep

theorem map3 {α β : Type} {g : α → β} {l : List α} {a b c : β} (h : l.map g = [a, b, c]) : ∃ x y z, l = [x, y, z] ∧ g x = a ∧ g y = b ∧ g z = c := by
  rcases l with _ | ⟨x, _ | ⟨y, _ | ⟨z, _ | ⟨u, r⟩⟩⟩⟩ <;> simp at h
  exact ⟨x, y, z, rfl, h.1, h.2.1, h.2.2⟩
theorem len3 {α : Type} {l : List α} (h : l.length = 3) : ∃ x y z, l = [x, y, z] := by
  rcases l with _ | ⟨x, _ | ⟨y, _ | ⟨z, _ | ⟨u, r⟩⟩⟩⟩ <;> simp at h
  exact ⟨x, y, z, rfl⟩
section
variable {H : Type} {enc : TypeId × Value → H} {P : Program} {w : World} {spare : Nat → Bool} {held : Bool}
theorem open_iis {T t0 t1 t2 e : TypeId} {k0 k1 : IntKind} {cs : Array Value} {d : DataW H} {ps : List MemPlace} (hu : P.underlying T = some (.struct (P.fieldsOf T))) (hfs : (P.fieldsOf T).toList.map (fun f => (f.type, f.offset)) = [(t0, 0), (t1, 1), (t2, 2)])
    (h0 : flatK P 2 t0 = some [.int k0]) (h1 : flatK P 2 t1 = some [.int k1]) (h2 : P.underlying t2 = some (.slice e)) (c0 : P.cellsOf t0 = 1) (c1 : P.cellsOf t1 = 1) (c2 : P.cellsOf t2 = 1) (cT : P.cellsOf T = 3)
    (h : DataW.Trod enc P w 0 spare held T (.agg cs) d ps) :
    ∃ (a b : Int) (A : Option Addr) (len cap : Nat) (d' : DataW H) (ps' : List MemPlace), cs = #[.int k0 a, .int k1 b, .slice A len cap] ∧ (Lit.int k0 a).wf = true ∧ (Lit.int k1 b).wf = true ∧ DataW.Trod enc P w 0 spare held t2 (.slice A len cap) d' ps' := by
  obtain ⟨fuel, hx⟩ := h
  cases fuel with
  | zero => cases hx
  | succ n =>
    rw [DataW.trod_step] at hx
    unfold DataW.trodStep at hx
    rw [hu] at hx
    generalize hC : (Value.agg cs).cells.toList = C at hx
    have hC' : cs.toList = C := hC
    clear hC
    simp only at hx
    split at hx
    · rename_i hcl
      obtain ⟨xs, hxs, _⟩ := Option.map_eq_some_iff.1 hx
      obtain ⟨cl⟩ := cs
      obtain rfl : cl = C := hC'
      obtain ⟨f0, f1, f2, hl, hf0, hf1, hf2⟩ := map3 hfs
      rw [hl] at hxs
      simp only [Prod.mk.injEq] at hf0 hf1 hf2
      obtain ⟨t0e, o0⟩ := hf0
      obtain ⟨t1e, o1⟩ := hf1
      obtain ⟨t2e, o2⟩ := hf2
      obtain ⟨y0, r0, g0, hr0, _⟩ := mapM_cons_some hxs
      obtain ⟨y1, r1, g1, hr1, _⟩ := mapM_cons_some hr0
      obtain ⟨y2, r2, g2, _, _⟩ := mapM_cons_some hr1
      rw [t0e, o0, c0] at g0; rw [t1e, o1, c1] at g1; rw [t2e, o2, c2] at g2
      rw [cT] at hcl
      obtain ⟨x0, x1, x2, rfl⟩ := len3 hcl
      obtain ⟨⟨a, rfl, wa⟩, _⟩ := flat_ok 2 n t0 [.int k0] [x0] y0 h0 g0
      obtain ⟨⟨b, rfl, wb⟩, _⟩ := flat_ok 2 n t1 [.int k1] [x1] y1 h1 g1
      have g2' : DataW.trod enc P w 0 spare held n t2 [x2] = some y2 := g2
      rcases open_slice h2 g2' with ⟨e0, _⟩ | ⟨A, len, cap, mm, nn, D, Pl, e0, _⟩
      · cases e0; exact ⟨a, b, none, 0, 0, y2.1, y2.2, rfl, wa, wb, n, g2'⟩
      · cases e0; exact ⟨a, b, some A, len, cap, y2.1, y2.2, rfl, wa, wb, n, g2'⟩
    · cases hx
end
end Go.Proofs.YtoakhhilmnfpkaaGreatDoor.L
