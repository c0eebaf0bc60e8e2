/- Layer 7: how pairs stand to one another; the world behind is told. -/
import Derived.Test.YtgkhaoogfpnbbaaSiteB
import Derived.Test.YtgkhaoogfpnbbaaGrow
namespace Go.Proofs.Ytgkhaoogfpnbbaa.L
open Go.RowKit Go.MapKept Go.Maps Go.Sort

set_option maxHeartbeats 400000 in
theorem order_gr (a b : Site) (w : World) : Calls Try.prog 56 #[a.v, b.v] w fun e w' => e = .returned (.int .i64 (a.cmp b)) ∧ Gr w w' := by
  unfold Site.cmp Site.v
  obtain ⟨af, ap⟩ := a
  obtain ⟨bf, bp⟩ := b
  simp only
  go_enter Try.func56, Try.ntmps56
  go_wp2_with fail
  go_region_held3 (fun w' => w'.cell? ⟨w.heap.size, 0, none⟩ = some (.int .i64 af) ∧ w'.cell? ⟨w.heap.size, 1, none⟩ = some (.int .i64 ap) ∧ w'.cell? ⟨w.heap.size + 1, 0, none⟩ = some (.int .i64 bf) ∧ w'.cell? ⟨w.heap.size + 1, 1, none⟩ = some (.int .i64 bp)) (go_keep)
    (first | (go_at_call 63; refine (cmp_any _ _ _).mono ?_; rintro e w' ⟨rfl, rfl⟩) | (go_at_call 61; refine (or_two _ _ (cmpI af bf) (cmpI ap bp) ?_ ?_).mono ?_; (focus go_simp); (focus go_simp); rintro e w' ⟨rfl, rfl⟩))
  go_wp2_with fail
  go_ret
  exact ⟨rfl, ((((Gr.refl w).alloc _).alloc _).alloc _).drew⟩
theorem Order_gr (a b : Site) (w : World) : Calls Try.prog 46 #[a.v, b.v] w fun e w' => e = .returned (.int .i64 (a.cmp b)) ∧ Gr w w' := by
  have C := Lib.hid (fun w => order_gr a b w)
  generalize a.cmp b = c at C ⊢
  obtain ⟨af, ap⟩ := a
  obtain ⟨bf, bp⟩ := b
  unfold Site.v at *
  simp only at *
  go_enter Try.func46, Try.ntmps46
  go_wp2_with fail
  refine (C.out _).mono ?_
  rintro e w1 ⟨rfl, hf⟩
  go_wp2_with fail
  go_ret
  exact ⟨rfl, (((Gr.refl w).alloc _).alloc _).trans hf⟩

def cfPair (x y : Pair) : Int := orI (x.a.cmp y.a) (x.b.cmp y.b)
/-- The two pairs as they lie. -/
def WbP (W : World) (a b c d e f g h : Int) : World := (W.alloc (.cells #[.int .i64 a, .int .i64 b, .int .i64 c, .int .i64 d] 54)).alloc (.cells #[.int .i64 e, .int .i64 f, .int .i64 g, .int .i64 h] 54)
theorem keepP {W w' : World} {a b c d e f g h : Int} (hg : Gr (WbP W a b c d e f g h) w') : Gr (WbP W a b c d e f g h) w' ∧ w'.cell? ⟨W.heap.size, 0, none⟩ = some (.int .i64 a) ∧ w'.cell? ⟨W.heap.size, 1, none⟩ = some (.int .i64 b) ∧ w'.cell? ⟨W.heap.size, 2, none⟩ = some (.int .i64 c) ∧ w'.cell? ⟨W.heap.size, 3, none⟩ = some (.int .i64 d) ∧ w'.cell? ⟨W.heap.size + 1, 0, none⟩ = some (.int .i64 e) ∧ w'.cell? ⟨W.heap.size + 1, 1, none⟩ = some (.int .i64 f) ∧ w'.cell? ⟨W.heap.size + 1, 2, none⟩ = some (.int .i64 g) ∧ w'.cell? ⟨W.heap.size + 1, 3, none⟩ = some (.int .i64 h) :=
  ⟨hg, hg.cell (by simp [WbP]), hg.cell (by simp [WbP]), hg.cell (by simp [WbP]), hg.cell (by simp [WbP]), hg.cell (by simp [WbP]), hg.cell (by simp [WbP]), hg.cell (by simp [WbP]), hg.cell (by simp [WbP])⟩
set_option maxRecDepth 20000 in
set_option maxHeartbeats 2000000 in
theorem cmpPair (W : World) (x y : Pair) : Calls Try.prog 60 #[x.v, y.v] W fun e w' => e = .returned (.int .i64 (cfPair x y)) ∧ Gr W w' := by
  have C := Lib.hid (fun a b w => Order_gr a b w)
  unfold cfPair Pair.v
  obtain ⟨⟨a, b⟩, ⟨c, d⟩⟩ := x
  obtain ⟨⟨e, f⟩, ⟨g, h⟩⟩ := y
  simp only
  have C1 := Lib.hid (fun w => C.out ⟨a, b⟩ ⟨e, f⟩ w)
  have C2 := Lib.hid (fun w => C.out ⟨c, d⟩ ⟨g, h⟩ w)
  clear C
  generalize Site.cmp ⟨a, b⟩ ⟨e, f⟩ = u at C1 ⊢
  generalize Site.cmp ⟨c, d⟩ ⟨g, h⟩ = v at C2 ⊢
  unfold Site.v at C1 C2
  simp only at C1 C2
  have hW0 : Gr W (WbP W a b c d e f g h) := ((Gr.refl W).alloc _).alloc _
  have hWb := Lib.hid hW0
  clear hW0
  go_enter Try.func60, Try.ntmps60
  go_wp2_with fail
  go_region_held3 (fun w' => Gr (WbP W a b c d e f g h) w' ∧ w'.cell? ⟨W.heap.size, 0, none⟩ = some (.int .i64 a) ∧ w'.cell? ⟨W.heap.size, 1, none⟩ = some (.int .i64 b) ∧ w'.cell? ⟨W.heap.size, 2, none⟩ = some (.int .i64 c) ∧ w'.cell? ⟨W.heap.size, 3, none⟩ = some (.int .i64 d) ∧ w'.cell? ⟨W.heap.size + 1, 0, none⟩ = some (.int .i64 e) ∧ w'.cell? ⟨W.heap.size + 1, 1, none⟩ = some (.int .i64 f) ∧ w'.cell? ⟨W.heap.size + 1, 2, none⟩ = some (.int .i64 g) ∧ w'.cell? ⟨W.heap.size + 1, 3, none⟩ = some (.int .i64 h)) ((refine keepP ?_; first | exact (Gr.refl _).drew | assumption | exact Gr.alloc (by assumption) _ | exact And.left (by assumption) | exact Gr.alloc (And.left (by assumption)) _ | (trace_state; fail)))
    (first | (go_at_call 46; (first | (refine (C1.out _).mono ?_) | (refine (C2.out _).mono ?_)); rintro e w' ⟨rfl, hg⟩; (first | (have hg2 : Gr (WbP W a b c d e f g h) w' := (Gr.refl _).drew.trans hg) | (have hg2 : Gr (WbP W a b c d e f g h) w' := Gr.trans (by assumption) hg) | (have hg2 : Gr (WbP W a b c d e f g h) w' := Gr.trans (And.left (by assumption)) hg))) | (go_at_call 61; refine (or_two _ _ u v ?_ ?_).mono ?_; (focus go_simp); (focus go_simp); rintro e w' ⟨rfl, rfl⟩))
  all_goals
    go_wp2_with fail
    go_ret
    exact ⟨rfl, (hWb.out.trans hg2).alloc _⟩
end Go.Proofs.Ytgkhaoogfpnbbaa.L
