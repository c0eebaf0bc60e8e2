/- The chapter's rows of layer 27. -/
import Derived.Test.YtgkhaoogfpnbbaaRefS
namespace Go.Proofs.Ytgkhaoogfpnbbaa.L
open Go.RowKit

theorem num27_any (n : Int) (w : World) : Calls Try.prog 11 #[.int .i64 n] w fun e w' => e = .returned (.int .i64 n) ∧ w = w' := by
  go_enter Try.func11, Try.ntmps11
  go_wp2
  go_ret
  exact ⟨rfl, rfl⟩

theorem of27_any (n : Int) (a b : Acc) (w : World) : Calls Try.prog 23 #[.int .i64 n, a.v, b.v] w fun e w' => e = .returned (Flag.v ⟨n, 0, a, b⟩) ∧ Fr No w w' := by
  unfold Acc.v Flag.v Flag.cells
  go_enter Try.func23, Try.ntmps23
  go_wp2_with fail
  refine bodyPost_ret (v := .agg #[.int .i64 n, .int .u32 0, .int .i64 a.g, .int .i64 a.s.f, .int .i64 a.s.pc, .int .i64 a.k, .int .i64 b.g, .int .i64 b.s.f, .int .i64 b.s.pc, .int .i64 b.k]) (by simp [results, Try.results23, go_sem]) rfl ⟨rfl, ?_⟩
  exact (((Fr.refl No w).alloc _).alloc _).alloc _

theorem tLen_any (w : World) (base t p b : Nat) (v : Value) (T : Tab) (h : TX w base t p b v T) : Calls Try.prog 20 #[.pointer (some ⟨t, 0, none⟩)] w fun e w' => e = .returned (.int .i64 T.l.length) ∧ w = w' := by
  obtain ⟨k1, f1, l1⟩ := blk_all h.cell
  obtain ⟨A, c, rfl, -⟩ := own_form h.own
  have HN := Lib.hid (fun w h => tnone_at w t (some ⟨p, 0, none⟩) h)
  have c0 := k1 0
  go_enter Try.func20, Try.ntmps20
  go_wp2_with fail
  refine (HN.out _ ((k1 0).trans rfl)).mono ?_
  rintro e w1 ⟨rfl, rfl⟩
  go_wp2_with fail
  go_ret
  exact ⟨rfl, rfl⟩
theorem tDropped_any (w : World) (base t p b : Nat) (v : Value) (T : Tab) (h : TX w base t p b v T) : Calls Try.prog 21 #[.pointer (some ⟨t, 0, none⟩)] w fun e w' => e = .returned (.int .i64 T.dropped) ∧ w = w' := by
  obtain ⟨k1, f1, l1⟩ := blk_all h.cell
  have HN := Lib.hid (fun w h => tnone_at w t (some ⟨p, 0, none⟩) h)
  have c0 := k1 0
  go_enter Try.func21, Try.ntmps21
  go_wp2_with fail
  refine (HN.out _ ((k1 0).trans rfl)).mono ?_
  rintro e w1 ⟨rfl, rfl⟩
  go_wp2_with fail
  go_ret
  exact ⟨rfl, rfl⟩

def works27F1 : Flag := ⟨0, 0, ⟨0, ⟨0, 1⟩, 3⟩, ⟨1, ⟨1, 2⟩, 2⟩⟩
def works27F2 : Flag := ⟨3, 0, ⟨1, ⟨1, 2⟩, 3⟩, ⟨0, ⟨0, 1⟩, 2⟩⟩
def works27F3 : Flag := ⟨5, 0, ⟨0, ⟨0, 1⟩, 3⟩, ⟨1, ⟨0, 1⟩, 3⟩⟩
def works27T0 : Tab := ⟨1, 0, [], []⟩
def works27T1 : Tab := (works27T0.take works27F1).1
def works27T2 : Tab := (works27T1.take works27F2).1
def works27T3 : Tab := (works27T2.take works27F3).1
theorem works27_r1 : (works27T0.take works27F1) = (works27T1, true) := Prod.ext rfl (by rfl)
theorem works27_r2 : (works27T1.take works27F2) = (works27T2, false) := Prod.ext rfl (by rfl)
theorem works27_r3 : (works27T2.take works27F3) = (works27T3, false) := Prod.ext rfl (by rfl)
theorem Take_fine (w : World) (base t p b : Nat) (v : Value) (T : Tab) (h : TX w base t p b v T) (f : Flag) (hf : f.ok = true) (n : Nat) (hn : T.Fine n) (hn1 : n < 1000) (hb : base ≤ w.heap.size) :
    Calls Try.prog 14 #[.pointer (some ⟨t, 0, none⟩), f.v] w (TakeEnd w base t p b v (T.take f)) := by
  have h1 := hn.came (Pair.of f.e.s f.l.s)
  have h2 := hn.dropped
  have h3 := hn.len
  exact Take_yes w base t p b v T h f hf hb (hn.came0 _) (by omega) hn.dropped0 (by omega) (by omega)

set_option maxHeartbeats 1000000 in
theorem works27_any (w : World) : Calls Try.prog 7 #[] w fun e w' => e = .returned (.bool true) ∧ Fr No w w' := by
  have F0 : works27T0.Fine 0 := Tab.Fine.start 1
  have F1 : works27T1.Fine 1 := F0.take works27F1
  have F2 : works27T2.Fine 2 := F1.take works27F2
  have C1 : Hid (∀ w base t p b v, TX w base t p b v works27T0 → base ≤ w.heap.size → Calls Try.prog 14 #[.pointer (some ⟨t, 0, none⟩), works27F1.v] w (TakeEnd w base t p b v (works27T1, true))) := Lib.hid (fun w base t p b v h hb => by rw [← works27_r1]; exact Take_fine w base t p b v _ h works27F1 (by rfl) 0 F0 (by decide) hb)
  have C2 : Hid (∀ w base t p b v, TX w base t p b v works27T1 → base ≤ w.heap.size → Calls Try.prog 14 #[.pointer (some ⟨t, 0, none⟩), works27F2.v] w (TakeEnd w base t p b v (works27T2, false))) := Lib.hid (fun w base t p b v h hb => by rw [← works27_r2]; exact Take_fine w base t p b v _ h works27F2 (by rfl) 1 F1 (by decide) hb)
  have C3 : Hid (∀ w base t p b v, TX w base t p b v works27T2 → base ≤ w.heap.size → Calls Try.prog 14 #[.pointer (some ⟨t, 0, none⟩), works27F3.v] w (TakeEnd w base t p b v (works27T3, false))) := Lib.hid (fun w base t p b v h hb => by rw [← works27_r3]; exact Take_fine w base t p b v _ h works27F3 (by rfl) 2 F2 (by decide) hb)
  have O1 := Lib.hid (fun w => of27_any 0 ⟨0, ⟨0, 1⟩, 3⟩ ⟨1, ⟨1, 2⟩, 2⟩ w)
  have O2 := Lib.hid (fun w => of27_any 3 ⟨1, ⟨1, 2⟩, 3⟩ ⟨0, ⟨0, 1⟩, 2⟩ w)
  have O3 := Lib.hid (fun w => of27_any 5 ⟨0, ⟨0, 1⟩, 3⟩ ⟨1, ⟨0, 1⟩, 3⟩ w)
  have HN := Lib.hid (fun w => tNew_yes 1 w (by decide))
  have L3 : works27T3.l.length = 1 := rfl
  have D3 : works27T3.dropped = 1 := rfl
  have HLen := Lib.hid (fun w base t p b v h => tLen_any w base t p b v works27T3 h)
  have HDr := Lib.hid (fun w base t p b v h => tDropped_any w base t p b v works27T3 h)
  rw [L3] at HLen
  rw [D3] at HDr
  unfold works27F1 Flag.v Flag.cells at C1
  unfold works27F2 Flag.v Flag.cells at C2
  unfold works27F3 Flag.v Flag.cells at C3
  unfold Acc.v Flag.v Flag.cells at O1 O2 O3
  clear F0 F1 F2 L3 D3
  go_enter Try.func7, Try.ntmps7
  go_wp2_with fail
  refine (HN.out _).mono ?_
  rintro e w1 ⟨t, p, b, rfl, ht, hp, hb, hx, hf⟩
  have hBX := hf.at (blk_alloc (blk_new w _) _) (fun s => s)
  have hBY := hf.at (blk_new (w.alloc _) _) (fun s => s)
  simp only [World.size_alloc] at hBY ht hp hb hx
  have HX := Lib.hid (hx.base (base' := w.heap.size + 1 + 1) (Nat.le_refl _))
  have HBX := Lib.hid hBX
  have HBY := Lib.hid hBY
  have HF := Lib.hid ((((Fr.refl No w).alloc _).alloc _).to hf (fun _ _ s => s))
  have hs := hf.size
  simp at hs
  obtain ⟨k0, f0, l0⟩ := blk_all HBX.out
  obtain ⟨k1, f1, l1⟩ := blk_all HBY.out
  clear hBX hBY hx hf
  go_wp2_with fail
  refine (O1.out _).mono ?_
  rintro e w2 ⟨rfl, hf⟩
  have hX := HX.out.no hf
  have hBX := hf.at HBX.out (fun s => s)
  have hBY := hf.at HBY.out (fun s => s)
  have hs1 := hf.size
  have hF := HF.out.to hf (fun _ _ s => s)
  clear HX HBX HBY HF k0 k1 f0 f1 l0 l1 hf
  have HX := Lib.hid hX
  have HBX := Lib.hid hBX
  have HBY := Lib.hid hBY
  have HF := Lib.hid hF
  have hs := hF.size
  clear hX hBX hBY hF
  go_wp2_with fail
  refine (C1.out _ _ t p b _ HX.out (by omega)).mono ?_
  rintro e w3 ⟨v3, rfl, hX, -, hf⟩
  have hBX := hf.at HBX.out (by omega)
  have hBY := hf.at HBY.out (by omega)
  have hs1 := hf.size
  have hF := HF.out.trans (T := No) hf (fun _ _ s => s) (fun i hi s => by omega)
  clear HX HBX HBY HF hf
  have HX := Lib.hid hX
  have HBX := Lib.hid hBX
  have HBY := Lib.hid hBY
  have HF := Lib.hid hF
  have hs := hF.size
  obtain ⟨k0, f0, l0⟩ := blk_all HBX.out
  obtain ⟨k1, f1, l1⟩ := blk_all HBY.out
  clear hX hBX hBY hF
  go_wp2_with fail
  refine (O2.out _).mono ?_
  rintro e w4 ⟨rfl, hf⟩
  have hX := HX.out.no hf
  have hBX := hf.at HBX.out (fun s => s)
  have hBY := hf.at HBY.out (fun s => s)
  have hs1 := hf.size
  have hF := HF.out.to hf (fun _ _ s => s)
  clear HX HBX HBY HF k0 k1 f0 f1 l0 l1 hf
  have HX := Lib.hid hX
  have HBX := Lib.hid hBX
  have HBY := Lib.hid hBY
  have HF := Lib.hid hF
  have hs := hF.size
  clear hX hBX hBY hF
  go_wp2_with fail
  refine (C2.out _ _ t p b _ HX.out (by omega)).mono ?_
  rintro e w5 ⟨v5, rfl, hX, -, hf⟩
  have hBX := hf.at HBX.out (by omega)
  have hBY := hf.at HBY.out (by omega)
  have hs1 := hf.size
  have hF := HF.out.trans (T := No) hf (fun _ _ s => s) (fun i hi s => by omega)
  clear HX HBX HBY HF hf
  have HX := Lib.hid hX
  have HBX := Lib.hid hBX
  have HBY := Lib.hid hBY
  have HF := Lib.hid hF
  have hs := hF.size
  obtain ⟨k0, f0, l0⟩ := blk_all HBX.out
  obtain ⟨k1, f1, l1⟩ := blk_all HBY.out
  clear hX hBX hBY hF
  go_wp2_with fail
  refine (O3.out _).mono ?_
  rintro e w6 ⟨rfl, hf⟩
  have hX := HX.out.no hf
  have hBX := hf.at HBX.out (fun s => s)
  have hBY := hf.at HBY.out (fun s => s)
  have hs1 := hf.size
  have hF := HF.out.to hf (fun _ _ s => s)
  clear HX HBX HBY HF k0 k1 f0 f1 l0 l1 hf
  have HX := Lib.hid hX
  have HBX := Lib.hid hBX
  have HBY := Lib.hid hBY
  have HF := Lib.hid hF
  have hs := hF.size
  clear hX hBX hBY hF
  go_wp2_with fail
  refine (C3.out _ _ t p b _ HX.out (by omega)).mono ?_
  rintro e w7 ⟨v7, rfl, hX, -, hf⟩
  have hBX := hf.at HBX.out (by omega)
  have hBY := hf.at HBY.out (by omega)
  have hs1 := hf.size
  have hF := HF.out.trans (T := No) hf (fun _ _ s => s) (fun i hi s => by omega)
  clear HX HBX HBY HF hf
  have HX := Lib.hid hX
  have HBX := Lib.hid hBX
  have HBY := Lib.hid hBY
  have HF := Lib.hid hF
  have hs := hF.size
  obtain ⟨k0, f0, l0⟩ := blk_all HBX.out
  obtain ⟨k1, f1, l1⟩ := blk_all HBY.out
  clear hX hBX hBY hF
  go_wp2_with (go_at_call 11; refine (num27_any _ _).mono ?_; rintro e w' ⟨rfl, rfl⟩)
  refine (HLen.out _ _ t p b _ HX.out).mono ?_
  rintro e w8 ⟨rfl, rfl⟩
  go_wp2_with fail
  refine (HDr.out _ _ t p b _ HX.out).mono ?_
  rintro e w8 ⟨rfl, rfl⟩
  go_wp2_with fail
  go_ret
  exact ⟨rfl, HF.out⟩
end Go.Proofs.Ytgkhaoogfpnbbaa.L
