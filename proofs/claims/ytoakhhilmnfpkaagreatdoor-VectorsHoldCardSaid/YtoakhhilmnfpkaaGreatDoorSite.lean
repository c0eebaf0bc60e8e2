/- Contracts of package site: what may be, which is first, pairs. -/
import Derived.Test.YtoakhhilmnfpkaaGreatDoorProg
import Derived.Test.YtoakhhilmnfpkaaGreatDoorLib
import Derived.BigQuiet
import Derived.Deep.QuietTactic
import Derived.Laws.StructEq
import Derived.Laws.EntriesVeiled
namespace Go.Proofs.YtoakhhilmnfpkaaGreatDoor.L
open Go.RowKit

/-- A site: a function, a place in it. -/
structure Site where
  f : Int
  pc : Int
deriving DecidableEq
def Site.v (s : Site) : Value := .agg #[.int .i64 s.f, .int .i64 s.pc]
def Site.ok (s : Site) : Bool := decide (0 ≤ s.f) && decide (s.f < 32) && decide (0 ≤ s.pc) && decide (s.pc < 512)

/-- ErrArg, unless it is so. -/
def argErr (b : Bool) : Int := if b = true then 0 else 2
theorem argErr_zero (b : Bool) : (argErr b == 0) = b := by cases b <;> rfl
theorem argErr_ne (b : Bool) : (argErr b != 0) = !b := by cases b <;> rfl

theorem bounds_any (w : World) : Calls Tryz.prog 153 #[] w fun e w' => e = .returned (.agg #[.func (.func 166) #[] #[], .int .i64 32, .func (.func 167) #[] #[], .int .i64 512]) ∧ Fr No w w' := by
  go_enter Tryz.func153, Tryz.ntmps153
  go_wp2
  exact bodyPost_ret (v := .agg #[.func (.func 166) #[] #[], .int .i64 32, .func (.func 167) #[] #[], .int .i64 512]) (by simp [results, Tryz.results153, go_sem]) rfl ⟨rfl, (Fr.refl _ _).alloc _⟩

theorem bounds1_any (s : Site) (w : World) : Calls Tryz.prog 166 #[s.v] w fun e w' => e = .returned (.int .i64 s.f) ∧ w' = w.alloc (.cells #[.int .i64 s.f, .int .i64 s.pc] 40) := by
  unfold Site.v
  go_enter Tryz.func166, Tryz.ntmps166
  go_wp2
  go_ret
  exact ⟨rfl, rfl⟩
theorem bounds2_any (s : Site) (w : World) : Calls Tryz.prog 167 #[s.v] w fun e w' => e = .returned (.int .i64 s.pc) ∧ w' = w.alloc (.cells #[.int .i64 s.f, .int .i64 s.pc] 40) := by
  unfold Site.v
  go_enter Tryz.func167, Tryz.ntmps167
  go_wp2
  go_ret
  exact ⟨rfl, rfl⟩

theorem check_any (s : Site) (w : World) : Calls Tryz.prog 141 #[s.v] w fun e w' => e = .returned (.int .i64 (argErr s.ok)) ∧ Fr No w w' := by
  have i0 : ∀ w, (Instr.index 289 (.agg #[.func (.func 166) #[] #[], .int .i64 32, .func (.func 167) #[] #[], .int .i64 512]) (.int .i64 0)).run Tryz.prog w = .ok (.agg #[.func (.func 166) #[] #[], .int .i64 32]) w := fun _ => by kernel_rfl
  have i1 : ∀ w, (Instr.index 289 (.agg #[.func (.func 166) #[] #[], .int .i64 32, .func (.func 167) #[] #[], .int .i64 512]) (.int .i64 1)).run Tryz.prog w = .ok (.agg #[.func (.func 167) #[] #[], .int .i64 512]) w := fun _ => by kernel_rfl
  obtain ⟨sf, sp⟩ := s
  have C1 := fun w => bounds1_any ⟨sf, sp⟩ w
  have C2 := fun w => bounds2_any ⟨sf, sp⟩ w
  have hv : Hid (∀ a b c d : Bool, a = decide (0 ≤ sf) → b = decide (sf < 32) → c = decide (0 ≤ sp) → d = decide (sp < 512) → Site.ok ⟨sf, sp⟩ = (a && b && c && d)) := Lib.hid (fun a b c d ha hb hc hd => by subst ha hb hc hd; rfl)
  generalize Site.ok ⟨sf, sp⟩ = r at hv ⊢
  unfold Site.v at *
  simp only at *
  have H1 := Lib.hid C1
  have H2 := Lib.hid C2
  clear C1 C2
  go_enter Tryz.func141, Tryz.ntmps141
  go_wp2_with fail
  refine (bounds_any _).mono ?_
  rintro e w1 ⟨rfl, hf⟩
  have c0 := (blk_cell (hf.at (blk_new w _) (fun s => s)) 0).trans rfl
  have c1 := (blk_cell (hf.at (blk_new w _) (fun s => s)) 1).trans rfl
  have hs := hf.size
  simp at hs
  have hs1 : w.heap.size < w1.heap.size := by omega
  have hs2 : w.heap.size < w1.heap.size + 1 := by omega
  have hs3 : w.heap.size < w1.heap.size + 1 + 1 := by omega
  have hF := Lib.hid (((Fr.refl No w).alloc _).to hf (fun _ _ s => s))
  clear hf
  go_wp2_with fail
  refine wp_loop_rounds 3 ?_
  rw [rounds_succ]
  go_wp2_with fail
  refine (H1.out _).mono ?_
  rintro e w2 ⟨rfl, rfl⟩
  by_cases h1 : 0 ≤ sf
  · by_cases h2 : sf < 32
    · go_wp2_with fail
      rw [rounds_succ]
      go_wp2_with fail
      refine (H2.out _).mono ?_
      rintro e w3 ⟨rfl, rfl⟩
      by_cases h3 : 0 ≤ sp
      · by_cases h4 : sp < 512
        · go_wp2_with fail
          rw [rounds_succ]
          go_wp2_with fail
          go_ret
          exact ⟨by rw [hv.out true true true true (by simp [h1]) (by simp [h2]) (by simp [h3]) (by simp [h4])]; rfl, ((((hF.out.alloc _).alloc _).alloc _).alloc _)⟩
        · go_wp2_with fail
          go_ret
          exact ⟨by rw [hv.out true true true false (by simp [h1]) (by simp [h2]) (by simp [h3]) (by simp; omega)]; rfl, ((((hF.out.alloc _).alloc _).alloc _).alloc _)⟩
      · go_wp2_with fail
        go_ret
        exact ⟨by rw [hv.out true true false _ (by simp [h1]) (by simp [h2]) (by simp; omega) rfl]; rfl, ((((hF.out.alloc _).alloc _).alloc _).alloc _)⟩
    · go_wp2_with fail
      go_ret
      exact ⟨by rw [hv.out true false _ _ (by simp [h1]) (by simp; omega) rfl rfl]; rfl, ((hF.out.alloc _).alloc _)⟩
  · go_wp2_with fail
    go_ret
    exact ⟨by rw [hv.out false _ _ _ (by simp; omega) rfl rfl rfl]; rfl, ((hF.out.alloc _).alloc _)⟩
end Go.Proofs.YtoakhhilmnfpkaaGreatDoor.L
