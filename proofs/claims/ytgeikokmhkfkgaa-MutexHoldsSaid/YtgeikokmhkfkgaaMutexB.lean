/- Contracts of package mutex, Lock and Unlock. -/
import Derived.Test.YtgeikokmhkfkgaaMutex
namespace Go.Proofs.Ytgeikokmhkfkgaa.L
open Go.RowKit

/-- What Lock tells, and what it leaves. -/
def lockE (n : Int) (m : List (Int × Int)) (i by_ : Int) : Int :=
  if decide (0 ≤ by_ ∧ by_ ≤ 65535) = false then 2 else if decide (0 ≤ i ∧ i < n) = false then 4 else if (look m i).isSome = true then 230 else 0
def lockM (n : Int) (m : List (Int × Int)) (i by_ : Int) : List (Int × Int) := if lockE n m i by_ = 0 then put m i by_ else m
theorem lockM_no {n : Int} {m : List (Int × Int)} {i by_ c : Int} (h : lockE n m i by_ = c) (hc : c ≠ 0) : lockM n m i by_ = m := by unfold lockM; rw [h, if_neg hc]
theorem lockM_yes {n : Int} {m : List (Int × Int)} {i by_ : Int} (h : lockE n m i by_ = 0) : lockM n m i by_ = put m i by_ := by unfold lockM; rw [if_pos h]

theorem lock_any (w : World) (p b : Nat) (n : Int) (m : List (Int × Int)) (h : MX w p b n m) (i by_ : Int) :
    Calls Try.prog 10 #[.pointer (some ⟨p, 0, none⟩), .int .i64 i, .int .i64 by_] w fun e w' => e = .returned (.int .i64 (lockE n m i by_)) ∧ MX w' p b n (lockM n m i by_) ∧ Fr (· = b) w w' := by
  have hp := h.lt.1
  have hb := h.lt.2
  have H := Lib.hid h
  have E := Lib.hid (show lockE n m i by_ = if decide (0 ≤ by_ ∧ by_ ≤ 65535) = false then 2 else if decide (0 ≤ i ∧ i < n) = false then 4 else if (look m i).isSome = true then 230 else 0 from rfl)
  clear h
  go_enter Try.func10, Try.ntmps10
  go_wp2_with fail
  refine wp_fwd (l := 0) rfl ?_
  go_wp2_with fail
  refine (none_at _ p (some b) ((blk_cell (blk_alloc H.out.cell _) 0).trans rfl)).mono ?_
  rintro e w1 ⟨rfl, rfl⟩
  go_wp2_with fail
  refine (fine_one _ _ by_ 65535 ((blk_cell (blk_new _ _) 0).trans rfl) ((blk_cell (blk_new _ _) 1).trans rfl)).mono ?_
  rintro e w1 ⟨rfl, hf⟩
  have hf' := ((Fr.refl No w).alloc _).to hf (fun _ _ s => s)
  have HX := Lib.hid (H.out.fr hf' (fun s => s) (fun s => s))
  have hF : Fr (· = b) w w1 := hf'.mono (fun _ _ s => s.elim)
  clear hf hf' H
  cases h1 : decide (0 ≤ by_ ∧ by_ ≤ 65535)
  · rw [h1, if_pos rfl] at E
    go_wp2_with fail
    go_step3
    refine ⟨rfl, ?_⟩
    go_wp2_with fail
    rw [Exit.noGoto_ret]
    go_ret
    exact ⟨by rw [E.out]; rfl, by rw [lockM_no E.out (by decide)]; exact HX.out, hF⟩
  · rw [h1, if_neg (by decide)] at E
    go_wp2_with fail
    refine (there_any p i n _ ((blk_cell HX.out.cell 1).trans rfl)).mono ?_
    rintro e w2 ⟨rfl, rfl⟩
    cases h2 : decide (0 ≤ i ∧ i < n)
    · rw [h2, if_pos rfl] at E
      go_wp2_with fail
      go_step3
      refine ⟨rfl, ?_⟩
      go_wp2_with fail
      rw [Exit.noGoto_ret]
      go_ret
      exact ⟨by rw [E.out]; rfl, by rw [lockM_no E.out (by decide)]; exact HX.out, hF⟩
    · rw [h2, if_neg (by decide)] at E
      have c0 : w1.cell? ⟨p, 0, none⟩ = some (.map (some b)) := (blk_cell HX.out.cell 0).trans rfl
      go_wp2_with fail
      refine (of_any _ b m HX.out.holds i).mono ?_
      rintro e w2 ⟨rfl, rfl⟩
      cases h3 : (look m i).isSome
      · rw [h3, if_neg (by decide)] at E
        obtain ⟨w2, hrun, hM2, hF2, hs2⟩ := HX.out.holds.store intKey Try.underlying52 i by_
        go_wp2_with fail
        rw [fwd_ret]
        go_ret
        exact ⟨by rw [E.out]; rfl, by rw [lockM_yes E.out]; exact ⟨hF2.at HX.out.cell HX.out.ne, hM2⟩, hF.to hF2 (fun _ _ s => s)⟩
      · rw [h3, if_pos rfl] at E
        go_wp2_with fail
        go_step3
        refine ⟨rfl, ?_⟩
        go_wp2_with fail
        rw [Exit.noGoto_ret]
        go_ret
        exact ⟨by rw [E.out]; rfl, by rw [lockM_no E.out (by decide)]; exact HX.out, hF⟩
/-- What Unlock tells, and what it leaves. -/
def unlockE (n : Int) (m : List (Int × Int)) (i : Int) : Int := if decide (0 ≤ i ∧ i < n) = false then 4 else if (look m i).isSome = false then 231 else 0
def unlockBy (n : Int) (m : List (Int × Int)) (i : Int) : Int := if unlockE n m i = 0 then (look m i).getD 0 else 0
def unlockM (n : Int) (m : List (Int × Int)) (i : Int) : List (Int × Int) := if unlockE n m i = 0 then del m i else m
theorem unlock_no {n : Int} {m : List (Int × Int)} {i c : Int} (h : unlockE n m i = c) (hc : c ≠ 0) : unlockM n m i = m ∧ unlockBy n m i = 0 := by unfold unlockM unlockBy; rw [h, if_neg hc, if_neg hc]; exact ⟨rfl, rfl⟩
theorem unlock_yes {n : Int} {m : List (Int × Int)} {i : Int} (h : unlockE n m i = 0) : unlockM n m i = del m i ∧ unlockBy n m i = (look m i).getD 0 := by unfold unlockM unlockBy; rw [if_pos h, if_pos h]; exact ⟨rfl, rfl⟩

theorem unlock_any (w : World) (p b : Nat) (n : Int) (m : List (Int × Int)) (h : MX w p b n m) (i : Int) :
    Calls Try.prog 11 #[.pointer (some ⟨p, 0, none⟩), .int .i64 i] w fun e w' => e = .returned (.tuple #[.int .i64 (unlockBy n m i), .int .i64 (unlockE n m i)]) ∧ MX w' p b n (unlockM n m i) ∧ Fr (· = b) w w' := by
  have hp := h.lt.1
  have hb := h.lt.2
  have c0 : w.cell? ⟨p, 0, none⟩ = some (.map (some b)) := (blk_cell h.cell 0).trans rfl
  have HX := Lib.hid h
  have hF := Fr.refl (· = b) w
  have E := Lib.hid (show unlockE n m i = if decide (0 ≤ i ∧ i < n) = false then 4 else if (look m i).isSome = false then 231 else 0 from rfl)
  clear h
  go_enter Try.func11, Try.ntmps11
  go_wp2_with fail
  refine wp_fwd (l := 0) rfl ?_
  go_wp2_with fail
  refine (none_at _ p (some b) c0).mono ?_
  rintro e w1 ⟨rfl, rfl⟩
  go_wp2_with fail
  refine (there_any p i n _ ((blk_cell HX.out.cell 1).trans rfl)).mono ?_
  rintro e w2 ⟨rfl, rfl⟩
  cases h2 : decide (0 ≤ i ∧ i < n)
  · rw [h2, if_pos rfl] at E
    go_wp2_with fail
    go_step3
    refine ⟨rfl, ?_⟩
    go_wp2_with fail
    rw [Exit.noGoto_ret]
    go_ret2
    exact ⟨by rw [E.out, (unlock_no E.out (by decide)).2]; rfl, by rw [(unlock_no E.out (by decide)).1]; exact HX.out, hF⟩
  · rw [h2, if_neg (by decide)] at E
    go_wp2_with fail
    refine (of_any _ b m HX.out.holds i).mono ?_
    rintro e w2 ⟨rfl, rfl⟩
    cases h3 : (look m i).isSome
    · rw [h3, if_pos rfl] at E
      go_wp2_with fail
      go_step3
      refine ⟨rfl, ?_⟩
      go_wp2_with fail
      rw [Exit.noGoto_ret]
      go_ret2
      exact ⟨by rw [E.out, (unlock_no E.out (by decide)).2]; rfl, by rw [(unlock_no E.out (by decide)).1]; exact HX.out, hF⟩
    · rw [h3, if_neg (by decide)] at E
      obtain ⟨w2, hrun, hM2, hF2, hs2⟩ := HX.out.holds.delete intKey Try.underlying52 i 0
      go_wp2_with fail
      rw [fwd_ret]
      go_ret2
      exact ⟨by rw [E.out, (unlock_yes E.out).2]; rfl, by rw [(unlock_yes E.out).1]; exact ⟨hF2.at HX.out.cell HX.out.ne, hM2⟩, hF.to hF2 (fun _ _ s => s)⟩

theorem holder_any (w : World) (p b : Nat) (n : Int) (m : List (Int × Int)) (h : MX w p b n m) (i : Int) :
    Calls Try.prog 12 #[.pointer (some ⟨p, 0, none⟩), .int .i64 i] w fun e w' => e = .returned (.tuple #[.int .i64 ((look m i).getD 0), .bool (look m i).isSome]) ∧ w = w' := by
  have c0 : w.cell? ⟨p, 0, none⟩ = some (.map (some b)) := (blk_cell h.cell 0).trans rfl
  have HX := Lib.hid h
  clear h
  go_enter Try.func12, Try.ntmps12
  go_wp2_with fail
  refine (none_at _ p (some b) c0).mono ?_
  rintro e w1 ⟨rfl, rfl⟩
  go_wp2_with fail
  refine (of_any _ b m HX.out.holds i).mono ?_
  rintro e w2 ⟨rfl, rfl⟩
  go_wp2_with fail
  go_ret2
  exact ⟨rfl, rfl⟩
end Go.Proofs.Ytgeikokmhkfkgaa.L
