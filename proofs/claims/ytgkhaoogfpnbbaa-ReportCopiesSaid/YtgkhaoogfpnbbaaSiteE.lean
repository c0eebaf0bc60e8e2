/- Contracts of package site: an empty set, and whether one is there. -/
import Derived.Test.YtgkhaoogfpnbbaaSiteD
namespace Go.Proofs.Ytgkhaoogfpnbbaa.L
open Go.RowKit

theorem Calls.quiet_eq {P : Program} {f : FuncId} {args : Array Value} {w : World} {n : Nat} {v : Value}
    (h : Calls P f args (w.drewN n) fun e w' => e = .returned v ∧ w.drewN n = w') : Calls P f args (w.drewN n) fun e w'' => e = .returned v ∧ ∃ m, w'' = w.drewN m :=
  h.mono fun _ _ ⟨he, hm⟩ => ⟨he, n, hm.symm⟩

theorem PX_new (w : World) : PX ((w.alloc (.map #[] 0)).alloc (.cells #[.map (some w.heap.size)] 91)) (w.heap.size + 1) w.heap.size [] :=
  ⟨by simpa using blk_new (w.alloc (.map #[] 0)) (.cells #[.map (some w.heap.size)] 91), (mapAt_made w _ _).alloc _⟩

theorem sNew_empty (w : World) : Calls Try.prog 28 #[.slice none 0 0] w fun e w' => ∃ p b, e = .returned (.tuple #[.pointer (some ⟨p, 0, none⟩), .int .i64 0]) ∧ w.heap.size ≤ p ∧ w.heap.size ≤ b ∧ PX w' p b [] ∧ Fr No w w' := by
  have hmm := @run_makeMap Try.prog
  have HP := Lib.hid (PX_new w)
  have HF := Lib.hid (((Fr.refl No w).alloc (.map #[] 0)).alloc (.cells #[.map (some w.heap.size)] 91))
  go_enter Try.func28, Try.ntmps28
  go_wp2_with fail
  refine wp_loop_rounds 1 ?_
  rw [rounds_succ]
  go_wp2_with fail
  go_ret2
  exact ⟨_, _, rfl, by simp, Nat.le_refl _, HP.out, HF.out⟩

set_option maxHeartbeats 1000000 in
theorem Has_any (w : World) (p b : Nat) (m : List (Pair × Int)) (h : PX w p b m) (x : Pair) :
    Calls Try.prog 44 #[.pointer (some ⟨p, 0, none⟩), x.v] w fun e w' => e = .returned (.bool (decide (0 < came m x))) ∧ Fr No w w' := by
  have HP := Lib.hid h
  have hp := h.lt.1
  have hl0 := fun w' (hm' : mapAt w' b Pair.v (fun a : Int => .int .i64 a) m) => hm'.lookup pairKey Try.underlying89 (zeroInt7 w') x false
  clear h
  obtain ⟨n, hn⟩ : ∃ n, n = came m x := ⟨_, rfl⟩
  have hlk : (((look m x).map (fun a : Int => Value.int .i64 a)).getD (.int .i64 0)) = .int .i64 n := by rw [hn]; unfold came; cases look m x <;> rfl
  simp only [Bool.false_eq_true, if_false, hlk] at hl0
  rw [← hn]
  clear hn hlk
  have HN := Lib.hid (fun w : World => pnone_at w p (some b))
  obtain ⟨⟨af, ap⟩, ⟨bf, bp⟩⟩ := x
  unfold Pair.v at *
  simp only at *
  have HL := Lib.hid hl0
  clear hl0
  go_enter Try.func44, Try.ntmps44
  go_wp2_with fail
  have c0 : ∀ n, (World.drewN (w.alloc (.cells #[.int .i64 af, .int .i64 ap, .int .i64 bf, .int .i64 bp] 54)) n).cell? ⟨p, 0, none⟩ = some (.map (some b)) := fun n => (blk_cell (blk_alloc HP.out.cell (.cells #[.int .i64 af, .int .i64 ap, .int .i64 bf, .int .i64 bp] 54)) 0).trans rfl
  have l1 := fun n => HL.out ((w.alloc (.cells #[.int .i64 af, .int .i64 ap, .int .i64 bf, .int .i64 bp] 54)).drewN n) ((HP.out.holds.alloc _).kept rfl)
  go_quiet ((go_at_call 49; exact Calls.quiet_eq (HN.out _ (c0 _))))
  go_wp2_with fail
  go_ret
  exact ⟨rfl, ((Fr.refl No w).alloc _).drewN _⟩
end Go.Proofs.Ytgkhaoogfpnbbaa.L
