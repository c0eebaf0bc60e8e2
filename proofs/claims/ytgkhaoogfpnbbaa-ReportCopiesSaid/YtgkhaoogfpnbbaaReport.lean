/- Contracts of package report: which flags may be. -/
import Derived.Test.YtgkhaoogfpnbbaaSiteD
namespace Go.Proofs.Ytgkhaoogfpnbbaa.L
open Go.RowKit

/-- Who, where, what. -/
structure Acc where
  g : Int
  s : Site
  k : Int
deriving DecidableEq
structure Flag where
  at_ : Int
  addr : Int
  e : Acc
  l : Acc
deriving DecidableEq
def Acc.v (a : Acc) : Value := .agg #[.int .i64 a.g, .int .i64 a.s.f, .int .i64 a.s.pc, .int .i64 a.k]
def Flag.cells (f : Flag) : Array Value := #[.int .i64 f.at_, .int .u32 f.addr, .int .i64 f.e.g, .int .i64 f.e.s.f, .int .i64 f.e.s.pc, .int .i64 f.e.k, .int .i64 f.l.g, .int .i64 f.l.s.f, .int .i64 f.l.s.pc, .int .i64 f.l.k]
def Flag.v (f : Flag) : Value := .agg f.cells
def Acc.ok (a : Acc) : Bool := (decide (0 ≤ a.g) && decide (a.g ≤ 65535)) && a.s.ok && (decide (2 ≤ a.k) && decide (a.k ≤ 3))
def Flag.ok (f : Flag) : Bool := decide (0 ≤ f.at_) && (f.e.ok && f.l.ok) && (f.e.g != f.l.g) && (f.e.k == 3 || f.l.k == 3)

theorem between_any (n lo hi : Int) (w : World) : Calls Try.prog 27 #[.int .i64 n, .int .i64 lo, .int .i64 hi] w fun e w' => e = .returned (.bool (decide (lo ≤ n) && decide (n ≤ hi))) ∧ w = w' := by
  cases h1 : decide (lo ≤ n)
  · go_enter Try.func27, Try.ntmps27
    go_wp2
    go_ret
    exact ⟨rfl, rfl⟩
  · go_enter Try.func27, Try.ntmps27
    go_wp2
    go_ret
    exact ⟨rfl, rfl⟩

theorem access_any (a : Acc) (w : World) : Calls Try.prog 34 #[a.v] w fun e w' => e = .returned (.bool a.ok) ∧ Fr No w w' := by
  obtain ⟨g, ⟨sf, sp⟩, k⟩ := a
  have R : Hid (Acc.ok ⟨g, ⟨sf, sp⟩, k⟩ = ((decide (0 ≤ g) && decide (g ≤ 65535)) && Site.ok ⟨sf, sp⟩ && (decide (2 ≤ k) && decide (k ≤ 3)))) := Lib.hid rfl
  generalize Acc.ok ⟨g, ⟨sf, sp⟩, k⟩ = r at R ⊢
  have H1 := Lib.hid (fun w => between_any g 0 65535 w)
  have H3 := Lib.hid (fun w => between_any k 2 3 w)
  have H2 := Lib.hid (fun w => check_any ⟨sf, sp⟩ w)
  have HA := Lib.hid (argErr_zero (Site.ok ⟨sf, sp⟩))
  generalize Site.ok ⟨sf, sp⟩ = so at H2 R HA
  generalize (decide (2 ≤ k) && decide (k ≤ 3)) = k3 at H3 R
  generalize (decide (0 ≤ g) && decide (g ≤ 65535)) = k1 at H1 R
  unfold Site.v at H2
  simp only at H2
  unfold Acc.v
  go_enter Try.func34, Try.ntmps34
  go_wp2_with fail
  refine (H1.out _).mono ?_
  rintro e w1 ⟨rfl, rfl⟩
  cases k1
  · go_wp2_with fail
    go_ret
    exact ⟨by rw [R.out]; rfl, ((Fr.refl No w).alloc _)⟩
  · go_wp2_with fail
    refine (H2.out _).mono ?_
    rintro e w1 ⟨rfl, hf⟩
    obtain ⟨k0, f0, l0⟩ := blk_all (hf.at (blk_new w _) (fun s => s))
    have HF := Lib.hid (((Fr.refl No w).alloc _).to hf (fun _ _ s => s))
    clear hf
    cases so
    · have : (argErr false) = 2 := rfl
      rw [this]
      go_wp2_with fail
      go_ret
      exact ⟨by rw [R.out]; rfl, HF.out⟩
    · have : (argErr true) = 0 := rfl
      rw [this]
      go_wp2_with fail
      refine (H3.out _).mono ?_
      rintro e w1 ⟨rfl, rfl⟩
      go_wp2_with fail
      go_ret
      exact ⟨by rw [R.out]; rfl, HF.out⟩

/-- A flag in a box. -/
def FlagAt (w : World) (b : Nat) (f : Flag) : Prop := w.heap[b]? = some (.cells f.cells 43 (0, 0))

theorem FlagAt.rules {w : World} {b : Nat} {f : Flag} (h : FlagAt w b f) : (∀ i, w.cell? ⟨b, i, none⟩ = f.cells[i]?) ∧ (∀ i, w.frozen? ⟨b, i, none⟩ = false) ∧ b < w.heap.size := blk_all h

theorem check1_any (f : Flag) (b : Nat) (w : World) (h : FlagAt w b f) : Calls Try.prog 32 #[.pointer (some ⟨b, 0, none⟩)] w fun e w' => e = .returned (.bool (decide (0 ≤ f.at_))) ∧ w = w' := by
  obtain ⟨k, fr, l⟩ := h.rules
  unfold Flag.cells at k
  go_enter Try.func32, Try.ntmps32
  go_wp2
  go_ret
  exact ⟨rfl, rfl⟩
theorem check2_any (f : Flag) (b : Nat) (w : World) (h : FlagAt w b f) : Calls Try.prog 33 #[.pointer (some ⟨b, 0, none⟩)] w fun e w' => e = .returned (.bool (f.e.ok && f.l.ok)) ∧ Fr No w w' := by
  have H1 := Lib.hid (fun w => access_any f.e w)
  have H2 := Lib.hid (fun w => access_any f.l w)
  have HB := Lib.hid h
  obtain ⟨k, fr, l⟩ := h.rules
  clear h
  generalize f.e.ok = o1 at *
  generalize f.l.ok = o2 at *
  unfold Flag.cells at k
  unfold Acc.v at H1 H2
  go_enter Try.func33, Try.ntmps33
  go_wp2_with fail
  refine (H1.out _).mono ?_
  rintro e w1 ⟨rfl, hf⟩
  cases o1
  · go_wp2_with fail
    go_ret
    exact ⟨rfl, hf⟩
  · obtain ⟨k1, fr1, l1⟩ := FlagAt.rules (f := f) (hf.at HB.out (fun s => s))
    unfold Flag.cells at k1
    have HF := Lib.hid hf
    clear hf k fr l
    go_wp2_with fail
    refine (H2.out _).mono ?_
    rintro e w2 ⟨rfl, hf2⟩
    go_wp2_with fail
    go_ret
    exact ⟨rfl, HF.out.to hf2 (fun _ _ s => s)⟩
theorem check3_any (f : Flag) (b : Nat) (w : World) (h : FlagAt w b f) : Calls Try.prog 35 #[.pointer (some ⟨b, 0, none⟩)] w fun e w' => e = .returned (.bool (f.e.g != f.l.g)) ∧ w = w' := by
  obtain ⟨k, fr, l⟩ := h.rules
  unfold Flag.cells at k
  go_enter Try.func35, Try.ntmps35
  go_wp2
  go_ret
  exact ⟨rfl, rfl⟩
theorem check4_any (f : Flag) (b : Nat) (w : World) (h : FlagAt w b f) : Calls Try.prog 36 #[.pointer (some ⟨b, 0, none⟩)] w fun e w' => e = .returned (.bool (f.e.k == 3 || f.l.k == 3)) ∧ w = w' := by
  obtain ⟨k, fr, l⟩ := h.rules
  unfold Flag.cells at k
  cases h1 : (f.e.k == 3)
  · go_enter Try.func36, Try.ntmps36
    go_wp2
    go_ret
    exact ⟨rfl, rfl⟩
  · go_enter Try.func36, Try.ntmps36
    go_wp2
    go_ret
    exact ⟨rfl, rfl⟩

set_option maxHeartbeats 1000000 in
theorem fcheck_any (f : Flag) (w : World) : Calls Try.prog 15 #[f.v] w fun e w' => e = .returned (.int .i64 (argErr f.ok)) ∧ Fr No w w' := by
  have i0 : ∀ (n : Nat) w, (Instr.index 77 (.agg #[.func (.func 32) #[] #[.pointer (some ⟨n, 0, none⟩)], .func (.func 33) #[] #[.pointer (some ⟨n, 0, none⟩)], .func (.func 35) #[] #[.pointer (some ⟨n, 0, none⟩)], .func (.func 36) #[] #[.pointer (some ⟨n, 0, none⟩)]]) (.int .i64 0)).run Try.prog w = .ok (.func (.func 32) #[] #[.pointer (some ⟨n, 0, none⟩)]) w := fun _ _ => by kernel_rfl
  have i1 : ∀ (n : Nat) w, (Instr.index 77 (.agg #[.func (.func 32) #[] #[.pointer (some ⟨n, 0, none⟩)], .func (.func 33) #[] #[.pointer (some ⟨n, 0, none⟩)], .func (.func 35) #[] #[.pointer (some ⟨n, 0, none⟩)], .func (.func 36) #[] #[.pointer (some ⟨n, 0, none⟩)]]) (.int .i64 1)).run Try.prog w = .ok (.func (.func 33) #[] #[.pointer (some ⟨n, 0, none⟩)]) w := fun _ _ => by kernel_rfl
  have i2 : ∀ (n : Nat) w, (Instr.index 77 (.agg #[.func (.func 32) #[] #[.pointer (some ⟨n, 0, none⟩)], .func (.func 33) #[] #[.pointer (some ⟨n, 0, none⟩)], .func (.func 35) #[] #[.pointer (some ⟨n, 0, none⟩)], .func (.func 36) #[] #[.pointer (some ⟨n, 0, none⟩)]]) (.int .i64 2)).run Try.prog w = .ok (.func (.func 35) #[] #[.pointer (some ⟨n, 0, none⟩)]) w := fun _ _ => by kernel_rfl
  have i3 : ∀ (n : Nat) w, (Instr.index 77 (.agg #[.func (.func 32) #[] #[.pointer (some ⟨n, 0, none⟩)], .func (.func 33) #[] #[.pointer (some ⟨n, 0, none⟩)], .func (.func 35) #[] #[.pointer (some ⟨n, 0, none⟩)], .func (.func 36) #[] #[.pointer (some ⟨n, 0, none⟩)]]) (.int .i64 3)).run Try.prog w = .ok (.func (.func 36) #[] #[.pointer (some ⟨n, 0, none⟩)]) w := fun _ _ => by kernel_rfl
  have R : Hid (f.ok = (decide (0 ≤ f.at_) && (f.e.ok && f.l.ok) && (f.e.g != f.l.g) && (f.e.k == 3 || f.l.k == 3))) := Lib.hid rfl
  have H1 := Lib.hid (fun b w h => check1_any f b w h)
  have H2 := Lib.hid (fun b w h => check2_any f b w h)
  have H3 := Lib.hid (fun b w h => check3_any f b w h)
  have H4 := Lib.hid (fun b w h => check4_any f b w h)
  generalize f.ok = r at R ⊢
  generalize decide (0 ≤ f.at_) = r1 at R H1
  generalize (f.e.ok && f.l.ok) = r2 at R H2
  generalize (f.e.g != f.l.g) = r3 at R H3
  generalize (f.e.k == 3 || f.l.k == 3) = r4 at R H4
  have HB : Hid (∀ w : World, FlagAt (w.alloc (.cells f.cells 43)) w.heap.size f) := Lib.hid fun w => blk_new w _
  unfold Flag.v Flag.cells
  unfold Flag.cells at HB
  go_enter Try.func15, Try.ntmps15
  go_wp2_with fail
  refine wp_loop_rounds 5 ?_
  rw [rounds_succ]
  go_wp2_with fail
  refine (H1.out _ _ (HB.out _)).mono ?_
  rintro e w1 ⟨rfl, rfl⟩
  cases r1
  · go_wp2_with fail
    go_ret
    exact ⟨by rw [R.out]; rfl, ((Fr.refl No w).alloc _)⟩
  go_wp2_with fail
  rw [rounds_succ]
  go_wp2_with fail
  refine (H2.out _ _ (HB.out _)).mono ?_
  rintro e w1 ⟨rfl, hf⟩
  have HF := Lib.hid (((Fr.refl No w).alloc _).to hf (fun _ _ s => s))
  have HB2 := Lib.hid (show FlagAt w1 w.heap.size f from hf.at (HB.out w) (fun s => s))
  clear hf HB
  cases r2
  · go_wp2_with fail
    go_ret
    exact ⟨by rw [R.out]; rfl, HF.out⟩
  go_wp2_with fail
  rw [rounds_succ]
  go_wp2_with fail
  refine (H3.out _ _ HB2.out).mono ?_
  rintro e w2 ⟨rfl, rfl⟩
  cases r3
  · go_wp2_with fail
    go_ret
    exact ⟨by rw [R.out]; rfl, HF.out⟩
  go_wp2_with fail
  rw [rounds_succ]
  go_wp2_with fail
  refine (H4.out _ _ HB2.out).mono ?_
  rintro e w2 ⟨rfl, rfl⟩
  cases r4
  · go_wp2_with fail
    go_ret
    exact ⟨by rw [R.out]; rfl, HF.out⟩
  go_wp2_with fail
  rw [rounds_succ]
  go_wp2_with fail
  go_ret
  exact ⟨by rw [R.out]; rfl, HF.out⟩
end Go.Proofs.Ytgkhaoogfpnbbaa.L
