/- Layer 7: worlds that have grown; how pairs stand to one another. -/
import Derived.Test.YtfkbjfbbigbacaaGreatDoorLib
import Derived.Sort.Grow
import Derived.Deep.Draws
import Derived.Test.YtfkbjfbbigbacaaGreatDoorSiteB

namespace Go.Proofs.YtfkbjfbbigbacaaGreatDoor.L
open Go.RowKit Go.MapKept Go.Maps Go.Sort

/-- w' is w after some draws, with some blocks laid behind it. -/
def Gr (w w' : World) : Prop := ∃ q os', w' = grow (w.drewN q) os'
theorem Gr.refl (w : World) : Gr w w := ⟨0, #[], by rw [grow_empty]; rfl⟩
theorem Gr.drew {a b : World} (h : Gr a b) : Gr a b.drew := by
  obtain ⟨q, os, rfl⟩ := h
  exact ⟨q + 1, os, rfl⟩
theorem Gr.alloc {a b : World} (h : Gr a b) (o : Obj) : Gr a (b.alloc o) := by
  obtain ⟨q, os, rfl⟩ := h
  exact ⟨q, os ++ #[o], by rw [alloc_eq_grow, grow_grow]⟩
theorem Gr.trans {a b c : World} (h : Gr a b) (k : Gr b c) : Gr a c := by
  obtain ⟨q, os, rfl⟩ := h
  obtain ⟨q', os', rfl⟩ := k
  refine ⟨q + q', os ++ os', ?_⟩
  show grow (grow ((a.drewN q).drewN q') os) os' = _
  rw [grow_grow, World.drewN_drewN]
theorem Gr.cell {a b : World} (h : Gr a b) {p : Addr} {v : Value} (e : a.cell? p = some v) : b.cell? p = some v := by
  obtain ⟨q, os, rfl⟩ := h
  have hb : p.block < a.heap.size := by
    unfold World.cell? at e
    cases q2 : a.heap[p.block]? with
    | none => rw [q2] at e; cases e
    | some o => exact (Array.getElem?_eq_some_iff.1 q2).1
  rw [cell?_grow _ _ _ (by exact hb)]; exact e
theorem Gr.fr {a b : World} (h : Gr a b) : Fr No a b := by
  obtain ⟨q, os, rfl⟩ := h
  exact ⟨rfl, rfl, rfl, by simp [grow], fun k hk _ => by simp [grow, Array.getElem?_append, hk]⟩
end Go.Proofs.YtfkbjfbbigbacaaGreatDoor.L

namespace Go.Proofs.YtfkbjfbbigbacaaGreatDoor.L
open Go.RowKit Go.MapKept Go.Maps Go.Sort

set_option maxHeartbeats 400000 in
theorem order_gr (a b : Site) (w : World) : Calls Tryz.prog 108 #[a.v, b.v] w fun e w' => e = .returned (.int .i64 (a.cmp b)) ∧ Gr w w' := by
  unfold Site.cmp Site.v
  obtain ⟨af, ap⟩ := a
  obtain ⟨bf, bp⟩ := b
  simp only
  go_enter Tryz.func108, Tryz.ntmps108
  go_wp2_with fail
  go_region_held3 (fun w' => w'.cell? ⟨w.heap.size, 0, none⟩ = some (.int .i64 af) ∧ w'.cell? ⟨w.heap.size, 1, none⟩ = some (.int .i64 ap) ∧ w'.cell? ⟨w.heap.size + 1, 0, none⟩ = some (.int .i64 bf) ∧ w'.cell? ⟨w.heap.size + 1, 1, none⟩ = some (.int .i64 bp)) (go_keep)
    (first | (go_at_call 124; refine (cmp_any _ _ _).mono ?_; rintro e w' ⟨rfl, rfl⟩) | (go_at_call 77; refine (or_two _ _ (cmpI af bf) (cmpI ap bp) ?_ ?_).mono ?_; (focus go_simp); (focus go_simp); rintro e w' ⟨rfl, rfl⟩))
  go_wp2_with fail
  go_ret
  exact ⟨rfl, ((((Gr.refl w).alloc _).alloc _).alloc _).drew⟩
theorem Order_gr (a b : Site) (w : World) : Calls Tryz.prog 78 #[a.v, b.v] w fun e w' => e = .returned (.int .i64 (a.cmp b)) ∧ Gr w w' := by
  have C := Lib.hid (fun w => order_gr a b w)
  generalize a.cmp b = c at C ⊢
  obtain ⟨af, ap⟩ := a
  obtain ⟨bf, bp⟩ := b
  unfold Site.v at *
  simp only at *
  go_enter Tryz.func78, Tryz.ntmps78
  go_wp2_with fail
  refine (C.out _).mono ?_
  rintro e w1 ⟨rfl, hf⟩
  go_wp2_with fail
  go_ret
  exact ⟨rfl, (((Gr.refl w).alloc _).alloc _).trans hf⟩

def cfPair (x y : Pair) : Int := orI (x.a.cmp y.a) (x.b.cmp y.b)
/-- The two pairs as they lie. -/
def WbP (W : World) (a b c d e f g h : Int) : World := (W.alloc (.cells #[.int .i64 a, .int .i64 b, .int .i64 c, .int .i64 d] 45)).alloc (.cells #[.int .i64 e, .int .i64 f, .int .i64 g, .int .i64 h] 45)
theorem keepP {W w' : World} {a b c d e f g h : Int} (hg : Gr (WbP W a b c d e f g h) w') : Gr (WbP W a b c d e f g h) w' ∧ w'.cell? ⟨W.heap.size, 0, none⟩ = some (.int .i64 a) ∧ w'.cell? ⟨W.heap.size, 1, none⟩ = some (.int .i64 b) ∧ w'.cell? ⟨W.heap.size, 2, none⟩ = some (.int .i64 c) ∧ w'.cell? ⟨W.heap.size, 3, none⟩ = some (.int .i64 d) ∧ w'.cell? ⟨W.heap.size + 1, 0, none⟩ = some (.int .i64 e) ∧ w'.cell? ⟨W.heap.size + 1, 1, none⟩ = some (.int .i64 f) ∧ w'.cell? ⟨W.heap.size + 1, 2, none⟩ = some (.int .i64 g) ∧ w'.cell? ⟨W.heap.size + 1, 3, none⟩ = some (.int .i64 h) :=
  ⟨hg, hg.cell (by simp [WbP]), hg.cell (by simp [WbP]), hg.cell (by simp [WbP]), hg.cell (by simp [WbP]), hg.cell (by simp [WbP]), hg.cell (by simp [WbP]), hg.cell (by simp [WbP]), hg.cell (by simp [WbP])⟩
set_option maxRecDepth 20000 in
set_option maxHeartbeats 2000000 in
theorem cmpPair (W : World) (x y : Pair) : Calls Tryz.prog 76 #[x.v, y.v] W fun e w' => e = .returned (.int .i64 (cfPair x y)) ∧ Gr W w' := by
  have C := Lib.hid (fun a b w => Order_gr a b w)
  unfold cfPair Pair.v
  obtain ⟨⟨a, b⟩, ⟨c, d⟩⟩ := x
  obtain ⟨⟨e, f⟩, ⟨g, h⟩⟩ := y
  simp only
  have C1 := Lib.hid (fun w => C.out ⟨a, b⟩ ⟨e, f⟩ w)
  have C2 := Lib.hid (fun w => C.out ⟨c, d⟩ ⟨g, h⟩ w)
  clear C
  generalize Site.cmp ⟨a, b⟩ ⟨e, f⟩ = u at C1 ⊢
  generalize Site.cmp ⟨c, d⟩ ⟨g, h⟩ = v at C2 ⊢
  unfold Site.v at C1 C2
  simp only at C1 C2
  have hW0 : Gr W (WbP W a b c d e f g h) := ((Gr.refl W).alloc _).alloc _
  have hWb := Lib.hid hW0
  clear hW0
  go_enter Tryz.func76, Tryz.ntmps76
  go_wp2_with fail
  go_region_held3 (fun w' => Gr (WbP W a b c d e f g h) w' ∧ w'.cell? ⟨W.heap.size, 0, none⟩ = some (.int .i64 a) ∧ w'.cell? ⟨W.heap.size, 1, none⟩ = some (.int .i64 b) ∧ w'.cell? ⟨W.heap.size, 2, none⟩ = some (.int .i64 c) ∧ w'.cell? ⟨W.heap.size, 3, none⟩ = some (.int .i64 d) ∧ w'.cell? ⟨W.heap.size + 1, 0, none⟩ = some (.int .i64 e) ∧ w'.cell? ⟨W.heap.size + 1, 1, none⟩ = some (.int .i64 f) ∧ w'.cell? ⟨W.heap.size + 1, 2, none⟩ = some (.int .i64 g) ∧ w'.cell? ⟨W.heap.size + 1, 3, none⟩ = some (.int .i64 h)) ((refine keepP ?_; first | exact (Gr.refl _).drew | assumption | exact Gr.alloc (by assumption) _ | exact And.left (by assumption) | exact Gr.alloc (And.left (by assumption)) _ | (trace_state; fail)))
    (first | (go_at_call 78; (first | (refine (C1.out _).mono ?_) | (refine (C2.out _).mono ?_)); rintro e w' ⟨rfl, hg⟩; (first | (have hg2 : Gr (WbP W a b c d e f g h) w' := (Gr.refl _).drew.trans hg) | (have hg2 : Gr (WbP W a b c d e f g h) w' := Gr.trans (by assumption) hg) | (have hg2 : Gr (WbP W a b c d e f g h) w' := Gr.trans (And.left (by assumption)) hg))) | (go_at_call 77; refine (or_two _ _ u v ?_ ?_).mono ?_; (focus go_simp); (focus go_simp); rintro e w' ⟨rfl, rfl⟩))
  all_goals
    go_wp2_with fail
    go_ret
    exact ⟨rfl, (hWb.out.trans hg2).alloc _⟩
end Go.Proofs.YtfkbjfbbigbacaaGreatDoor.L
