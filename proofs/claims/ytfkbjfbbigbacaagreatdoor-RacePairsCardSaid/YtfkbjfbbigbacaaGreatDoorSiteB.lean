/- Contracts of package site: orders. -/
import Derived.Test.YtfkbjfbbigbacaaGreatDoorSite
import Derived.StillTailTactics
import Derived.Deep.RegionHeld3
import Derived.PlainAid
namespace Go.Proofs.YtfkbjfbbigbacaaGreatDoor.L
open Go.RowKit

theorem isNaN_any (x : Int) (w : World) : Calls Tryz.prog 145 #[.int .i64 x] w fun e w' => e = .returned (.bool false) ∧ w = w' := by
  go_enter Tryz.func145, Tryz.ntmps145
  go_wp2
  go_ret
  exact ⟨by simp, rfl⟩

/-- -1, 0, 1: as two numbers stand. -/
def cmpI (x y : Int) : Int := if x < y then -1 else if y < x then 1 else 0
theorem cmpI_lt {x y : Int} (h : x < y) : cmpI x y = -1 := by unfold cmpI; rw [if_pos h]
theorem cmpI_gt {x y : Int} (h : y < x) : cmpI x y = 1 := by unfold cmpI; rw [if_neg (by omega), if_pos h]
theorem cmpI_eq (x : Int) : cmpI x x = 0 := by unfold cmpI; rw [if_neg (by omega), if_neg (by omega)]

theorem cmp_any (x y : Int) (w : World) : Calls Tryz.prog 124 #[.int .i64 x, .int .i64 y] w fun e w' => e = .returned (.int .i64 (cmpI x y)) ∧ w = w' := by
  have H : Hid (cmpI x y = if x < y then -1 else if y < x then 1 else 0) := Lib.hid rfl
  generalize cmpI x y = r at H ⊢
  by_cases h1 : x < y
  · go_enter Tryz.func124, Tryz.ntmps124
    go_wp2_with (go_at_call 145; refine (isNaN_any _ _).mono ?_; rintro e w' ⟨rfl, rfl⟩)
    go_ret
    exact ⟨by rw [H.out, if_pos h1]; rfl, rfl⟩
  · by_cases h2 : y < x
    · go_enter Tryz.func124, Tryz.ntmps124
      go_wp2_with (go_at_call 145; refine (isNaN_any _ _).mono ?_; rintro e w' ⟨rfl, rfl⟩)
      go_ret
      exact ⟨by rw [H.out, if_neg (by omega), if_pos h2]; rfl, rfl⟩
    · go_enter Tryz.func124, Tryz.ntmps124
      go_wp2_with (go_at_call 145; refine (isNaN_any _ _).mono ?_; rintro e w' ⟨rfl, rfl⟩)
      go_ret
      exact ⟨by rw [H.out, if_neg (by omega), if_neg (by omega)]; rfl, rfl⟩

/-- The first of two that is not 0. -/
def orI (a b : Int) : Int := if a = 0 then b else a

theorem or_two (w : World) (b : Nat) (x y : Int) (h0 : w.cell? ⟨b, 0, none⟩ = some (.int .i64 x)) (h1 : w.cell? ⟨b, 1, none⟩ = some (.int .i64 y)) :
    Calls Tryz.prog 77 #[.slice (some ⟨b, 0, none⟩) 2 2] w fun e w' => e = .returned (.int .i64 (orI x y)) ∧ w = w' := by
  have H : Hid (orI x y = if x = 0 then y else x) := Lib.hid rfl
  generalize orI x y = r at H ⊢
  cases hx : (x == 0)
  · go_enter Tryz.func77, Tryz.ntmps77
    go_wp2
    refine wp_loop_rounds 3 ?_
    rw [rounds_succ]
    go_wp2
    go_ret
    exact ⟨by rw [H.out, if_neg (by simpa using hx)]; rfl, rfl⟩
  · cases hy : (y == 0)
    · go_enter Tryz.func77, Tryz.ntmps77
      go_wp2
      refine wp_loop_rounds 3 ?_
      rw [rounds_succ]
      go_wp2
      rw [rounds_succ]
      go_wp2
      go_ret
      exact ⟨by rw [H.out, if_pos (by simpa using hx)]; rfl, rfl⟩
    · go_enter Tryz.func77, Tryz.ntmps77
      go_wp2
      refine wp_loop_rounds 3 ?_
      rw [rounds_succ]
      go_wp2
      rw [rounds_succ]
      go_wp2
      rw [rounds_succ]
      go_wp2
      go_ret
      exact ⟨by rw [H.out, if_pos (by simpa using hx), show y = 0 by simpa using hy]; rfl, rfl⟩

/-- How a site stands to another one. -/
def Site.cmp (a b : Site) : Int := orI (cmpI a.f b.f) (cmpI a.pc b.pc)

set_option maxHeartbeats 400000 in
theorem order_any (a b : Site) (w : World) : Calls Tryz.prog 108 #[a.v, b.v] w fun e w' => e = .returned (.int .i64 (a.cmp b)) ∧ Fr No w w' := by
  unfold Site.cmp Site.v
  obtain ⟨af, ap⟩ := a
  obtain ⟨bf, bp⟩ := b
  simp only
  go_enter Tryz.func108, Tryz.ntmps108
  go_wp2_with fail
  go_region_held3 (fun w' => w'.cell? ⟨w.heap.size, 0, none⟩ = some (.int .i64 af) ∧ w'.cell? ⟨w.heap.size, 1, none⟩ = some (.int .i64 ap) ∧ w'.cell? ⟨w.heap.size + 1, 0, none⟩ = some (.int .i64 bf) ∧ w'.cell? ⟨w.heap.size + 1, 1, none⟩ = some (.int .i64 bp)) (go_keep)
    (first | (go_at_call 124; refine (cmp_any _ _ _).mono ?_; rintro e w' ⟨rfl, rfl⟩) | (go_at_call 77; refine (or_two _ _ (cmpI af bf) (cmpI ap bp) ?_ ?_).mono ?_; (focus go_simp); (focus go_simp); rintro e w' ⟨rfl, rfl⟩))
  go_wp2_with fail
  go_ret
  exact ⟨rfl, ((((Fr.refl No w).alloc _).alloc _).alloc _).drew⟩

theorem Order_any (a b : Site) (w : World) : Calls Tryz.prog 78 #[a.v, b.v] w fun e w' => e = .returned (.int .i64 (a.cmp b)) ∧ Fr No w w' := by
  have C := Lib.hid (fun w => order_any a b w)
  generalize a.cmp b = c at C ⊢
  obtain ⟨af, ap⟩ := a
  obtain ⟨bf, bp⟩ := b
  unfold Site.v at *
  simp only at *
  go_enter Tryz.func78, Tryz.ntmps78
  go_wp2_with fail
  refine (C.out _).mono ?_
  rintro e w1 ⟨rfl, hf⟩
  go_wp2_with fail
  go_ret
  exact ⟨rfl, (((Fr.refl No w).alloc _).alloc _).to hf (fun _ _ s => s)⟩

theorem check_yes (s : Site) (h : s.ok = true) (w : World) : Calls Tryz.prog 110 #[s.v] w fun e w' => e = .returned (.int .i64 0) ∧ Fr No w w' := by
  have := check_any s w; rw [h] at this; exact this
theorem check_no (s : Site) (h : s.ok = false) (w : World) : Calls Tryz.prog 110 #[s.v] w fun e w' => e = .returned (.int .i64 2) ∧ Fr No w w' := by
  have := check_any s w; rw [h] at this; exact this

/-- A pair of sites. -/
structure Pair where
  a : Site
  b : Site
deriving DecidableEq
def Pair.v (p : Pair) : Value := .agg #[.int .i64 p.a.f, .int .i64 p.a.pc, .int .i64 p.b.f, .int .i64 p.b.pc]
def Pair.ok (p : Pair) : Bool := p.a.ok && p.b.ok && decide (p.a.cmp p.b ≤ 0)

theorem right_any (p : Pair) (w : World) : Calls Tryz.prog 103 #[p.v] w fun e w' => e = .returned (.bool p.ok) ∧ Fr No w w' := by
  obtain ⟨a, b⟩ := p
  have R : Hid (Pair.ok ⟨a, b⟩ = (a.ok && b.ok && decide (a.cmp b ≤ 0))) := Lib.hid rfl
  generalize Pair.ok ⟨a, b⟩ = r at R ⊢
  have hC := fun w => Order_any a b w
  cases ha : a.ok
  · have h1 := fun w => check_no a ha w
    obtain ⟨af, ap⟩ := a
    obtain ⟨bf, bp⟩ := b
    have H1 := Lib.hid h1
    unfold Pair.v Site.v at *
    simp only at *
    clear h1 hC
    go_enter Tryz.func103, Tryz.ntmps103
    go_wp2_with fail
    refine (H1.out _).mono ?_
    rintro e w1 ⟨rfl, hf⟩
    go_wp2_with fail
    go_ret
    exact ⟨by rw [R.out, ha]; rfl, ((Fr.refl No w).alloc _).to hf (fun _ _ s => s)⟩
  · have h1 := fun w => check_yes a ha w
    cases hb : b.ok
    · have h2 := fun w => check_no b hb w
      obtain ⟨af, ap⟩ := a
      obtain ⟨bf, bp⟩ := b
      unfold Pair.v Site.v at *
      simp only at *
      have H1 := Lib.hid h1
      have H2 := Lib.hid h2
      clear h1 h2 hC
      go_enter Tryz.func103, Tryz.ntmps103
      go_wp2_with fail
      refine (H1.out _).mono ?_
      rintro e w1 ⟨rfl, hf⟩
      have d := hf.at (blk_new w _) (fun s => s)
      have d2 := (blk_cell d 2).trans rfl
      have d3 := (blk_cell d 3).trans rfl
      clear d
      go_wp2_with fail
      refine (H2.out _).mono ?_
      rintro e w2 ⟨rfl, hf2⟩
      go_wp2_with fail
      go_ret
      exact ⟨by rw [R.out, ha, hb]; rfl, (((Fr.refl No w).alloc _).to hf (fun _ _ s => s)).to hf2 (fun _ _ s => s)⟩
    · have h2 := fun w => check_yes b hb w
      obtain ⟨c, hc⟩ : ∃ c, a.cmp b = c := ⟨_, rfl⟩
      rw [hc] at hC R
      obtain ⟨af, ap⟩ := a
      obtain ⟨bf, bp⟩ := b
      unfold Pair.v Site.v at *
      simp only at *
      have H1 := Lib.hid h1
      have H2 := Lib.hid h2
      have HC := Lib.hid hC
      clear h1 h2 hC hc
      go_enter Tryz.func103, Tryz.ntmps103
      go_wp2_with fail
      refine (H1.out _).mono ?_
      rintro e w1 ⟨rfl, hf⟩
      have d := hf.at (blk_new w _) (fun s => s)
      have d2 := (blk_cell d 2).trans rfl
      have d3 := (blk_cell d 3).trans rfl
      go_wp2_with fail
      refine (H2.out _).mono ?_
      rintro e w2 ⟨rfl, hf2⟩
      replace d := hf2.at d (fun s => s)
      have e0 := (blk_cell d 0).trans rfl
      have e1 := (blk_cell d 1).trans rfl
      have e2 := (blk_cell d 2).trans rfl
      have e3 := (blk_cell d 3).trans rfl
      clear d
      go_wp2_with fail
      refine (HC.out _).mono ?_
      rintro e w3 ⟨rfl, hf3⟩
      go_wp2_with fail
      go_ret
      exact ⟨by rw [R.out, ha, hb]; rfl, ((((Fr.refl No w).alloc _).to hf (fun _ _ s => s)).to hf2 (fun _ _ s => s)).to hf3 (fun _ _ s => s)⟩

theorem read_pair (p : Pair) (fine : Bool) (n : Int) (w : World) : Calls Tryz.prog 116 #[p.v, .bool fine, .int .i64 n] w fun e w' =>
    e = .returned (.tuple #[(if fine then p else ⟨⟨0, 0⟩, ⟨0, 0⟩⟩ : Pair).v, .int .i64 (bif fine then 0 else n)]) ∧ Fr No w w' := by
  obtain ⟨⟨af, ap⟩, ⟨bf, bp⟩⟩ := p
  unfold Pair.v
  cases fine
  · simp only [Bool.false_eq_true, if_false, cond_false]
    go_enter Tryz.func116, Tryz.ntmps116
    go_wp2
    refine bodyPost_ret (v := .tuple #[.agg #[.int .i64 0, .int .i64 0, .int .i64 0, .int .i64 0], .int .i64 n]) (by simp [results, Tryz.results116, go_sem]) rfl ⟨rfl, ?_⟩
    exact (((((Fr.refl No w).alloc _).alloc _).alloc _))
  · simp only [if_true, cond_true]
    go_enter Tryz.func116, Tryz.ntmps116
    go_wp2
    refine bodyPost_ret (v := .tuple #[.agg #[.int .i64 af, .int .i64 ap, .int .i64 bf, .int .i64 bp], .int .i64 0]) (by simp [results, Tryz.results116, go_sem]) rfl ⟨rfl, ?_⟩
    exact ((((Fr.refl No w).alloc _).alloc _))
end Go.Proofs.YtfkbjfbbigbacaaGreatDoor.L
