/- MutexHolds, the loops. -/
import Derived.Test.YtgeikokmhkfkgaaMutexD
namespace Go.Proofs.Ytgeikokmhkfkgaa.L
open Go.RowKit

/-- What by[j] holds: one more than who holds j. -/
def byOf (m : List (Int × Int)) (j : Int) : Int := match look m j with | some v => v + 1 | none => 0
/-- What was laid: mutexes that are there, held by goroutines that may be. -/
def mFine (n : Int) (m : List (Int × Int)) : Prop := ∀ j v, look m j = some v → 0 ≤ j ∧ j < n ∧ 0 ≤ v ∧ v ≤ 65535
structure ByAt (w : World) (B : Nat) (m : List (Int × Int)) : Prop where
  blk : ∃ arr, w.heap[B]? = some (.cells arr 28 (0, 0)) ∧ arr.size = 64 ∧ ∀ j : Nat, j < 64 → arr[j]? = some (.int .i64 (byOf m j))

theorem ByAt.fr {S : Nat → Prop} {w w' : World} {B : Nat} {m : List (Int × Int)} (h : ByAt w B m) (f : Fr S w w') (hn : ¬ S B) : ByAt w' B m := by
  obtain ⟨arr, hb, hs, hc⟩ := h.blk
  exact ⟨arr, f.at hb hn, hs, hc⟩
theorem ByAt.cell {w : World} {B : Nat} {m : List (Int × Int)} (h : ByAt w B m) (j : Nat) (hj : j < 64) : w.cell? ⟨B, j, none⟩ = some (.int .i64 (byOf m j)) := by
  obtain ⟨arr, hb, hs, hc⟩ := h.blk
  exact (blk_cell hb j).trans (hc j hj)
theorem ByAt.free {w : World} {B : Nat} {m : List (Int × Int)} (h : ByAt w B m) (j : Nat) : w.frozen? ⟨B, j, none⟩ = false := by
  obtain ⟨arr, hb, hs, hc⟩ := h.blk
  exact blk_free hb j
theorem ByAt.set {w : World} {B : Nat} {m m' : List (Int × Int)} (h : ByAt w B m) {j : Nat} (hj : j < 64) (hm : ∀ i : Nat, i ≠ j → byOf m' i = byOf m i) : ByAt (w.setCell ⟨B, j, none⟩ (.int .i64 (byOf m' j))) B m' := by
  obtain ⟨arr, hb, hs, hc⟩ := h.blk
  refine ⟨_, blk_set hb _ _, by simpa using hs, fun i hi => ?_⟩
  rw [Array.getElem?_setIfInBounds]
  by_cases e : j = i
  · subst e; rw [if_pos rfl, if_pos (by omega)]
  · rw [if_neg e, hc i hi, hm i (fun x => e x.symm)]

theorem ByAt.new (w : World) : ByAt (w.alloc (.cells (Array.replicate 64 (.int .i64 0)) 28)) w.heap.size [] :=
  ⟨_, blk_new _ _, by simp, fun j hj => by simp [byOf, look, hj]⟩

theorem byOf_put {m : List (Int × Int)} {j v : Int} (i : Int) : byOf (put m j v) i = if j = i then v + 1 else byOf m i := by
  unfold byOf
  rw [look_put]
  by_cases e : j = i <;> simp [e]
theorem byOf_del {m : List (Int × Int)} (hn : (keys m).Nodup) {j : Int} (i : Int) : byOf (del m j) i = if j = i then 0 else byOf m i := by
  unfold byOf
  rw [look_del hn]
  by_cases e : j = i <;> simp [e]
theorem mFine_put {n : Int} {m : List (Int × Int)} (h : mFine n m) {j v : Int} (hj : 0 ≤ j ∧ j < n) (hv : 0 ≤ v ∧ v ≤ 65535) : mFine n (put m j v) := by
  intro i u hi
  rw [look_put] at hi
  by_cases e : j = i
  · subst e; rw [if_pos rfl] at hi; cases hi; exact ⟨hj.1, hj.2, hv.1, hv.2⟩
  · rw [if_neg e] at hi; exact h i u hi
theorem mFine_del {n : Int} {m : List (Int × Int)} (hn : (keys m).Nodup) (h : mFine n m) (j : Int) : mFine n (del m j) := by
  intro i u hi
  rw [look_del hn] at hi
  by_cases e : j = i
  · rw [if_pos e] at hi; cases hi
  · rw [if_neg e] at hi; exact h i u hi
theorem lock_zero {n : Int} {m : List (Int × Int)} {i by_ : Int} (h : lockE n m i by_ = 0) : (0 ≤ by_ ∧ by_ ≤ 65535) ∧ (0 ≤ i ∧ i < n) ∧ look m i = none := by
  unfold lockE at h
  split at h
  · cases h
  · split at h
    · cases h
    · split at h
      · cases h
      · rename_i h1 h2 h3
        refine ⟨by simpa using h1, by simpa using h2, by simpa using h3⟩
theorem unlock_zero {n : Int} {m : List (Int × Int)} {i : Int} (h : unlockE n m i = 0) : (0 ≤ i ∧ i < n) ∧ ∃ v, look m i = some v := by
  unfold unlockE at h
  split at h
  · cases h
  · split at h
    · cases h
    · rename_i h1 h2
      refine ⟨by simpa using h1, ?_⟩
      cases e : look m i with
      | none => simp [e] at h2
      | some v => exact ⟨v, rfl⟩

set_option maxRecDepth 100000 in
set_option maxHeartbeats 1000000 in
theorem holds_main (n : Int) (A : Option Addr) (len cap : Nat) (l : List Act13) (w : World) (h1 : 1 ≤ n) (h2 : n ≤ 64) (h3 : len ≤ 100) (hl : l.length = len) (hr : RowAt w A 3 enAct l) :
    Calls Try.prog 3 #[.int .i64 n, .slice A len cap] w fun e w' => e = .returned (.bool true) ∧ Fr No w w' := by
  have HL := Lib.hid hl
  have HR := Lib.hid hr
  clear hl hr
  go_enter Try.func3, Try.ntmps3
  go_wp2_with fail
  refine (new_yes n _ ⟨by omega, h2⟩).mono ?_
  rintro e w1 ⟨p, b, rfl, hm, hp, hb, hf⟩
  have HM := Lib.hid hm
  have HF := Lib.hid hf
  have hpl := hm.lt.1
  have hbl := hm.lt.2
  clear hm hf
  go_wp2_with fail
  have HB0 := Lib.hid (ByAt.new w1)
  go_loopw [8] (fun i wr => ∃ (k : Nat) (m : List (Int × Int)), k ≤ len ∧ i = .int .i64 k ∧ Hid (MX wr p b n m) ∧ Hid (mFine n m) ∧ Hid (ByAt wr w1.heap.size m) ∧ Hid (Fr No w wr)) (fun i _ => len - (intOf i).toNat)
  case atStart =>
    exact ⟨0, [], Nat.zero_le _, rfl, Lib.hid (HM.out.fr ((Fr.refl No w1).alloc _) (fun s => s) (fun s => s)), Lib.hid (show mFine n [] from fun j v h => by cases h), HB0, Lib.hid (HF.out.alloc _)⟩
  case round =>
    obtain ⟨k, m, hk, rfl, HX, HN, HB, HW⟩ := hrel
    clear HM HB0
    by_cases hlt : k < len
    · obtain ⟨x, hx⟩ : ∃ x, l[k]? = some x := ⟨_, List.getElem?_eq_getElem (by rw [HL.out]; exact hlt)⟩
      have HX' := Lib.hid hx
      rcases HR.out.fr HW.out.below with h0 | ⟨b0, off, rfl, hb0, hcell⟩
      · subst h0; cases hx
      obtain ⟨c0, c1, c2⟩ := act_cells hcell hx
      clear hx hcell
      go_wp2_with fail
      · -- Lock
        have hwr : w1.heap.size < wr.heap.size := by obtain ⟨arr, hb', _⟩ := HB.out.blk; exact lt_of_block hb'
        refine (lock_any _ p b n m (HX.out.fr ((Fr.refl No wr).alloc _) (fun s => s) (fun s => s)) x.i x.by_).mono ?_
        rintro e w2 ⟨rfl, hm2, hf2⟩
        have HX2 := Lib.hid hm2
        have HF2 := Lib.hid (((Fr.refl No wr).alloc _).trans hf2 (T := (· = b)) (fun _ _ s => s.elim) (fun _ _ s => s))
        have hbw : b < wr.heap.size := HX.out.lt.2
        have d := hf2.at (blk_new wr _) (by omega)
        have d1 := (blk_cell d 1).trans rfl
        have d2 := (blk_cell d 2).trans rfl
        have hs2 := hf2.size
        simp at hs2
        clear hm2 hf2 d
        go_wp2_with fail
        refine (num_any _ _).mono ?_
        rintro e w3 ⟨rfl, rfl⟩
        have HB2 := Lib.hid (HB.out.fr HF2.out (by omega))
        cases hz : (lockE n m x.i x.by_ == 0)
        · go_wp2_with fail
          go_roundw
          case rel => exact ⟨k + 1, m, by omega, by go_num, Lib.hid (by rw [← lockM_no (n := n) (m := m) (i := x.i) (by_ := x.by_) rfl (by simpa using hz)]; exact HX2.out), HN, HB2, Lib.hid (HW.out.trans HF2.out (fun _ _ s => s) (fun i hi s => by subst s; omega))⟩
          case measure => simp [intOf]; omega
        · have hz' := lock_zero (by simpa using hz)
          have e0 := HB2.out.cell x.i.toNat (by omega)
          rw [show byOf m (x.i.toNat : Int) = 0 from by rw [show (x.i.toNat : Int) = x.i from by omega]; unfold byOf; rw [hz'.2.2]] at e0
          have f0 := HB2.out.free x.i.toNat
          have i1 := hz'.2.1.1
          have i2 := hz'.2.1.2
          have v1 := hz'.1.1
          have v2 := hz'.1.2
          have HZ := Lib.hid hz'
          clear hz'
          go_wp2_with fail
          go_roundw
          case rel =>
            have hset := Fr.setCell (S := (· = w1.heap.size)) (Fr.refl _ w2) (p := ⟨w1.heap.size, x.i.toNat, none⟩) (.inl rfl) (.int .i64 (x.by_ + 1))
            have hy : byOf (put m x.i x.by_) (x.i.toNat : Int) = x.by_ + 1 := by rw [byOf_put, if_pos (by omega)]
            have hB3 := HB2.out.set (m' := put m x.i x.by_) (j := x.i.toNat) (by omega) (fun i hi => by rw [byOf_put, if_neg (by omega)])
            rw [hy] at hB3
            exact ⟨k + 1, put m x.i x.by_, by omega, by go_num, Lib.hid (by rw [← lockM_yes (n := n) (m := m) (i := x.i) (by_ := x.by_) (by simpa using hz)]; exact HX2.out.fr hset (by omega) (by omega)), Lib.hid (mFine_put HN.out HZ.out.2.1 HZ.out.1), Lib.hid hB3,
              Lib.hid ((HW.out.trans HF2.out (T := No) (fun _ _ s => s) (fun i hi s => by subst s; omega)).setCell (.inr (by simp; exact HF.out.size)) _)⟩
          case measure => simp [intOf]; omega
      all_goals
        -- Unlock
        have hwr : w1.heap.size < wr.heap.size := by obtain ⟨arr, hb', _⟩ := HB.out.blk; exact lt_of_block hb'
        refine (unlock_any _ p b n m (HX.out.fr ((Fr.refl No wr).alloc _) (fun s => s) (fun s => s)) x.i).mono ?_
        rintro e w2 ⟨rfl, hm2, hf2⟩
        have HX2 := Lib.hid hm2
        have HF2 := Lib.hid (((Fr.refl No wr).alloc _).trans hf2 (T := (· = b)) (fun _ _ s => s.elim) (fun _ _ s => s))
        have hbw : b < wr.heap.size := HX.out.lt.2
        have d := hf2.at (blk_new wr _) (by omega)
        have d1 := (blk_cell d 1).trans rfl
        have d2 := (blk_cell d 2).trans rfl
        have hs2 := hf2.size
        simp at hs2
        clear hm2 hf2 d
        go_wp2_with fail
        refine (num_any _ _).mono ?_
        rintro e w3 ⟨rfl, rfl⟩
        have HB2 := Lib.hid (HB.out.fr HF2.out (by omega))
        cases hz : (unlockE n m x.i == 0)
        · go_wp2_with fail
          go_roundw
          case rel => exact ⟨k + 1, m, by omega, by go_num, Lib.hid (by rw [← (unlock_no (n := n) (m := m) (i := x.i) rfl (by simpa using hz)).1]; exact HX2.out), HN, HB2, Lib.hid (HW.out.trans HF2.out (fun _ _ s => s) (fun i hi s => by subst s; omega))⟩
          case measure => simp [intOf]; omega
        · have hz' := unlock_zero (by simpa using hz)
          obtain ⟨v, hv⟩ := hz'.2
          have hn := HN.out x.i v hv
          have ht : (x.i.toNat : Int) = x.i := by omega
          have e0 := HB2.out.cell x.i.toNat (by omega)
          rw [show byOf m (x.i.toNat : Int) = v + 1 from by rw [ht]; unfold byOf; rw [hv]] at e0
          have f0 := HB2.out.free x.i.toNat
          have i1 := hz'.1.1
          have i2 := hz'.1.2
          have v1 := hn.2.2.1
          have v2 := hn.2.2.2
          have hby : unlockBy n m x.i = v := by rw [(unlock_yes (by simpa using hz)).2, hv]; rfl
          rw [hby]
          have HT := Lib.hid ht
          clear hz' hv hn ht hby
          go_wp2_with fail
          go_roundw
          case rel =>
            have hset := Fr.setCell (S := (· = w1.heap.size)) (Fr.refl _ w2) (p := ⟨w1.heap.size, x.i.toNat, none⟩) (.inl rfl) (.int .i64 0)
            have hy : byOf (del m x.i) (x.i.toNat : Int) = 0 := by rw [byOf_del HX.out.holds.keysNodup, if_pos HT.out.symm]
            have hB3 := HB2.out.set (m' := del m x.i) (j := x.i.toNat) (by omega) (fun i hi => by rw [byOf_del HX.out.holds.keysNodup, if_neg (by omega)])
            rw [hy] at hB3
            exact ⟨k + 1, del m x.i, by omega, by go_num, Lib.hid (by rw [← (unlock_yes (n := n) (m := m) (i := x.i) (by simpa using hz)).1]; exact HX2.out.fr hset (by omega) (by omega)), Lib.hid (mFine_del HX.out.holds.keysNodup HN.out x.i), Lib.hid hB3,
              Lib.hid ((HW.out.trans HF2.out (T := No) (fun _ _ s => s) (fun i hi s => by subst s; omega)).setCell (.inr (by simp; exact HF.out.size)) _)⟩
          case measure => simp [intOf]; omega
    · go_wp2_with fail
      go_loop [12] (fun i => ∃ (q : Nat), (q : Int) ≤ n ∧ i = .int .i64 q) (fun i => n.toNat - (intOf i).toNat)
      case atStart => exact ⟨0, by omega, rfl⟩
      case round =>
        obtain ⟨q, hq, rfl⟩ := hrel
        by_cases hqn : (q : Int) < n
        · have cq := HB.out.cell q (by omega)
          have hbo : ((look m (q : Int)).isSome == (byOf m q != 0)) = true := by
            unfold byOf
            cases hv : look m (q : Int) with
            | none => rfl
            | some v =>
              have := HN.out q v hv
              have h0 : (v + 1 != 0) = true := by rw [bne_iff_ne]; omega
              show (true == (v + 1 != 0)) = true
              rw [h0]; rfl
          go_wp2_with fail
          refine (holder_any _ p b n m HX.out q).mono ?_
          rintro e w3 ⟨rfl, rfl⟩
          go_wp2_with fail
          go_round
          case rel => exact ⟨q + 1, by omega, by go_num⟩
          case measure => simp [intOf]; omega
        · go_wp2_with (first | (go_at_call 9; refine (num_any _ _).mono ?_; rintro e w' ⟨rfl, rfl⟩) | (go_at_call 7; refine (works13 _).mono ?_; rintro e w5 ⟨rfl, hf5⟩))
          go_ret
          exact ⟨rfl, HW.out.to hf5 (fun _ _ s => s)⟩

/-- For every input: true; of what was there nothing has turned. -/
theorem holds_walk (n : Int) (A : Option Addr) (len cap : Nat) (l : List Act13) (w : World) (_ : (Lit.int .i64 n).wf = true) (hl : l.length = len) (_ : len ≤ cap) (_ : cap ≤ maxLen) (_ : ∀ x ∈ l, wfAct x) (hr : RowAt w A 3 enAct l) :
    Calls Try.prog 3 #[.int .i64 n, .slice A len cap] w fun e w' => e = .returned (.bool true) ∧ Fr No w w' := by
  by_cases h : n < 1 ∨ 64 < n ∨ 100 < len
  · exact holds_works n A len cap w h
  · exact holds_main n A len cap l w (by omega) (by omega) (by omega) hl hr

end Go.Proofs.Ytgeikokmhkfkgaa.L
