/- Contracts of the document's answers for layers 7, 25 and 27: which may be. -/
import Derived.Test.YtgkhaoogfpnbbaaReportF
namespace Go.Proofs.Ytgkhaoogfpnbbaa.L
open Go.RowKit

theorem siRight_any (s : Site) (w : World) : Calls Try.prog 45 #[s.v] w fun e w' => e = .returned (.bool s.ok) ∧ Fr No w w' := by
  obtain ⟨sf, sp⟩ := s
  have R : Hid (Site.ok ⟨sf, sp⟩ = (decide (0 ≤ sf) && decide (sf < 32) && decide (0 ≤ sp) && decide (sp < 512))) := Lib.hid rfl
  generalize Site.ok ⟨sf, sp⟩ = r at R ⊢
  unfold Site.v
  cases h1 : decide (0 ≤ sf)
  · go_enter Try.func45, Try.ntmps45
    go_wp2_with fail
    go_ret
    exact ⟨by rw [R.out, h1]; rfl, (Fr.refl No w).alloc _⟩
  cases h2 : decide (sf < 32)
  · go_enter Try.func45, Try.ntmps45
    go_wp2_with fail
    go_ret
    exact ⟨by rw [R.out, h1, h2]; rfl, (Fr.refl No w).alloc _⟩
  cases h3 : decide (0 ≤ sp)
  · go_enter Try.func45, Try.ntmps45
    go_wp2_with fail
    go_ret
    exact ⟨by rw [R.out, h1, h2, h3]; rfl, (Fr.refl No w).alloc _⟩
  · go_enter Try.func45, Try.ntmps45
    go_wp2_with fail
    go_ret
    exact ⟨by rw [R.out, h1, h2, h3]; rfl, (Fr.refl No w).alloc _⟩

theorem kind_two (k : Int) : (decide (2 ≤ k) && decide (k ≤ 3)) = (k == 2 || k == 3) := by
  rw [Bool.eq_iff_iff]; simp; omega

theorem access27_any (a : Acc) (w : World) : Calls Try.prog 26 #[a.v] w fun e w' => e = .returned (.bool a.ok) ∧ Fr No w w' := by
  obtain ⟨g, ⟨sf, sp⟩, k⟩ := a
  have R : Hid (Acc.ok ⟨g, ⟨sf, sp⟩, k⟩ = ((decide (0 ≤ g) && decide (g ≤ 65535)) && Site.ok ⟨sf, sp⟩ && (k == 2 || k == 3))) := Lib.hid (by rw [← kind_two]; rfl)
  generalize Acc.ok ⟨g, ⟨sf, sp⟩, k⟩ = r at R ⊢
  have H2 := Lib.hid (fun w => siRight_any ⟨sf, sp⟩ w)
  generalize Site.ok ⟨sf, sp⟩ = so at H2 R
  unfold Site.v at H2
  simp only at H2
  unfold Acc.v
  simp only
  cases h1 : decide (0 ≤ g)
  · go_enter Try.func26, Try.ntmps26
    go_wp2_with fail
    go_ret
    exact ⟨by rw [R.out, h1]; rfl, (Fr.refl No w).alloc _⟩
  cases h2 : decide (g ≤ 65535)
  · go_enter Try.func26, Try.ntmps26
    go_wp2_with fail
    go_ret
    exact ⟨by rw [R.out, h1, h2]; rfl, (Fr.refl No w).alloc _⟩
  go_enter Try.func26, Try.ntmps26
  go_wp2_with fail
  refine (H2.out _).mono ?_
  rintro e w1 ⟨rfl, hf⟩
  obtain ⟨k0, f0, l0⟩ := blk_all (hf.at (blk_new w _) (fun s => s))
  have HF := Lib.hid (((Fr.refl No w).alloc _).to hf (fun _ _ s => s))
  clear hf
  cases so
  · go_wp2_with fail
    go_ret
    exact ⟨by rw [R.out, h1, h2]; rfl, HF.out⟩
  · cases h3 : (k == 2)
    · go_wp2_with fail
      go_ret
      exact ⟨by rw [R.out, h1, h2, h3]; rfl, HF.out⟩
    · go_wp2_with fail
      go_ret
      exact ⟨by rw [R.out, h1, h2, h3]; rfl, HF.out⟩

set_option maxHeartbeats 1000000 in
theorem right27_any (f : Flag) (w : World) : Calls Try.prog 12 #[f.v] w fun e w' => e = .returned (.bool f.ok) ∧ Fr No w w' := by
  have R : Hid (f.ok = (decide (0 ≤ f.at_) && (f.e.ok && f.l.ok) && (f.e.g != f.l.g) && (f.e.k == 3 || f.l.k == 3))) := Lib.hid rfl
  generalize f.ok = r at R ⊢
  have H1 := Lib.hid (fun w => access27_any f.e w)
  have H2 := Lib.hid (fun w => access27_any f.l w)
  generalize f.e.ok = o1 at *
  generalize f.l.ok = o2 at *
  have hB := blk_new w (.cells f.cells 43)
  unfold Flag.v
  unfold Flag.cells at *
  unfold Acc.v at H1 H2
  have HB := Lib.hid hB
  clear hB
  cases h1 : decide (0 ≤ f.at_)
  · go_enter Try.func12, Try.ntmps12
    go_wp2_with fail
    go_ret
    exact ⟨by rw [R.out, h1]; rfl, (Fr.refl No w).alloc _⟩
  go_enter Try.func12, Try.ntmps12
  go_wp2_with fail
  refine (H1.out _).mono ?_
  rintro e w1 ⟨rfl, hf⟩
  have HB1 := Lib.hid (hf.at HB.out (fun s => s))
  obtain ⟨k0, f0, l0⟩ := blk_all HB1.out
  have HF := Lib.hid (((Fr.refl No w).alloc _).to hf (fun _ _ s => s))
  clear hf
  cases o1
  · go_wp2_with fail
    go_ret
    exact ⟨by rw [R.out, h1]; rfl, HF.out⟩
  go_wp2_with fail
  refine (H2.out _).mono ?_
  rintro e w2 ⟨rfl, hf⟩
  obtain ⟨k1, f1, l1⟩ := blk_all (hf.at HB1.out (fun s => s))
  have HF2 := Lib.hid (HF.out.to hf (fun _ _ s => s))
  clear hf k0 f0 l0
  cases o2
  · go_wp2_with fail
    go_ret
    exact ⟨by rw [R.out, h1]; rfl, HF2.out⟩
  cases h2 : (f.e.g != f.l.g)
  · go_wp2_with fail
    go_ret
    exact ⟨by rw [R.out, h1, h2]; rfl, HF2.out⟩
  cases h3 : (f.e.k == 3)
  · go_wp2_with fail
    go_ret
    exact ⟨by rw [R.out, h1, h2, h3]; rfl, HF2.out⟩
  · go_wp2_with fail
    go_ret
    exact ⟨by rw [R.out, h1, h2, h3]; rfl, HF2.out⟩
end Go.Proofs.Ytgkhaoogfpnbbaa.L
