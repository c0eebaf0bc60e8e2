/- The rows of chapter 13, run. -/
import Derived.Test.YtgeikokmhkfkgaaMutexB
namespace Go.Proofs.Ytgeikokmhkfkgaa.L
open Go.RowKit

theorem works13 (w : World) : Calls Try.prog 7 #[] w fun e w' => e = .returned (.bool true) ∧ Fr No w w' := by
  go_enter Try.func7, Try.ntmps7
  go_wp2_with fail
  refine (new_yes 2 _ (by decide)).mono ?_
  rintro e w1 ⟨p, b, rfl, hm, hp, hb, hf⟩
  have HM := Lib.hid hm
  have HF := Lib.hid hf
  clear hm hf
  go_wp2_with fail
  have hl := lock_any w1 p b 2 [] HM.out 1 7
  rw [show lockE 2 [] 1 7 = 0 from by decide, show lockM 2 [] 1 7 = [(1, 7)] from by decide] at hl
  refine hl.mono ?_
  clear hl
  rintro e w2 ⟨rfl, hm, hf⟩
  have HM2 := Lib.hid hm
  have HF2 := Lib.hid (HF.out.trans hf (fun _ _ s => s) (fun i hi s => by subst s; omega))
  clear hm hf HM HF
  go_wp2_with fail
  have hl := lock_any w2 p b 2 [(1, 7)] HM2.out 1 7
  rw [show lockE 2 [(1, 7)] 1 7 = 230 from by decide, show lockM 2 [(1, 7)] 1 7 = [(1, 7)] from by decide] at hl
  refine hl.mono ?_
  clear hl
  rintro e w3 ⟨rfl, hm, hf⟩
  have HM3 := Lib.hid hm
  have HF3 := Lib.hid (HF2.out.trans hf (fun _ _ s => s) (fun i hi s => by subst s; omega))
  clear hm hf HM2 HF2
  go_wp2_with fail
  have hl := unlock_any w3 p b 2 [(1, 7)] HM3.out 1
  rw [show unlockE 2 [(1, 7)] 1 = 0 from by decide, show unlockM 2 [(1, 7)] 1 = [] from by decide, show unlockBy 2 [(1, 7)] 1 = 7 from by decide] at hl
  refine hl.mono ?_
  clear hl
  rintro e w4 ⟨rfl, hm, hf⟩
  have HM4 := Lib.hid hm
  have HF4 := Lib.hid (HF3.out.trans hf (fun _ _ s => s) (fun i hi s => by subst s; omega))
  clear hm hf HM3 HF3
  go_wp2_with fail
  have hl := unlock_any w4 p b 2 [] HM4.out 1
  rw [show unlockE 2 [] 1 = 231 from by decide, show unlockM 2 [] 1 = [] from by decide, show unlockBy 2 [] 1 = 0 from by decide] at hl
  refine hl.mono ?_
  clear hl
  rintro e w5 ⟨rfl, hm, hf⟩
  have HM5 := Lib.hid hm
  have HF5 := Lib.hid (HF4.out.trans hf (fun _ _ s => s) (fun i hi s => by subst s; omega))
  clear hm hf HM4 HF4
  have hl := lock_any w5 p b 2 [] HM5.out 2 0
  rw [show lockE 2 [] 2 0 = 4 from by decide, show lockM 2 [] 2 0 = [] from by decide] at hl
  have HL := Lib.hid hl
  clear hl
  go_wp2_with (first | (go_at_call 9; refine (num_any _ _).mono ?_; rintro e w' ⟨rfl, rfl⟩) | (go_at_call 10; refine HL.out.mono ?_; rintro e w6 ⟨rfl, hm, hf⟩; have HF6 := Lib.hid (HF5.out.trans hf (fun _ _ s => s) (fun i hi s => by subst s; omega)); clear hm hf))
  go_ret
  exact ⟨rfl, HF6.out⟩
end Go.Proofs.Ytgeikokmhkfkgaa.L
