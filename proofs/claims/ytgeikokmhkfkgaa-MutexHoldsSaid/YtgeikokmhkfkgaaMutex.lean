/- Contracts of package mutex: what its functions do to the memory of a Mutexes. -/
import Derived.Test.YtgeikokmhkfkgaaProg
import Derived.Test.YtgeikokmhkfkgaaLib
namespace Go.Proofs.Ytgeikokmhkfkgaa.L
open Go.RowKit

theorem none_nil (w : World) : Calls Try.prog 22 #[.pointer none] w fun e w' => e = .returned (.bool true) ∧ w = w' := by
  go_enter Try.func22, Try.ntmps22
  go_wp2
  go_ret
  exact ⟨rfl, rfl⟩

theorem none_at (w : World) (p : Nat) (r : Option Nat) (h : w.cell? ⟨p, 0, none⟩ = some (.map r)) : Calls Try.prog 22 #[.pointer (some ⟨p, 0, none⟩)] w fun e w' => e = .returned (.bool r.isNone) ∧ w = w' := by
  have hq := fun w r => @run_eql_map_nil Try.prog w 52 3 3 r Try.underlying52
  go_enter Try.func22, Try.ntmps22
  go_wp2
  go_ret
  exact ⟨rfl, rfl⟩

theorem num_any (a : Int) (w : World) : Calls Try.prog 9 #[.int .i64 a] w fun e w' => e = .returned (.int .i64 a) ∧ w = w' := by
  go_enter Try.func9, Try.ntmps9
  go_wp2
  go_ret
  exact ⟨rfl, rfl⟩

theorem there_any (p : Nat) (i n : Int) (w : World) (h : w.cell? ⟨p, 1, none⟩ = some (.int .i64 n)) : Calls Try.prog 23 #[.pointer (some ⟨p, 0, none⟩), .int .i64 i] w fun e w' => e = .returned (.bool (decide (0 ≤ i ∧ i < n))) ∧ w = w' := by
  by_cases h1 : 0 ≤ i
  · go_enter Try.func23, Try.ntmps23
    go_wp2
    go_ret
    exact ⟨by simp [h1], rfl⟩
  · go_enter Try.func23, Try.ntmps23
    go_wp2
    go_ret
    exact ⟨by simp; omega, rfl⟩

/-- One bound: a number and the most that it may be. -/
theorem fine_one (w : World) (a : Nat) (n most : Int) (h0 : w.cell? ⟨a, 0, none⟩ = some (.int .i64 n)) (h1 : w.cell? ⟨a, 1, none⟩ = some (.int .i64 most)) :
    Calls Try.prog 21 #[.slice (some ⟨a, 0, none⟩) 1 1] w fun e w' => e = .returned (.bool (decide (0 ≤ n ∧ n ≤ most))) ∧ Fr No w w' := by
  by_cases c1 : 0 ≤ n
  · by_cases c2 : n ≤ most
    · go_enter Try.func21, Try.ntmps21
      go_wp2
      refine wp_loop_rounds 2 ?_
      rw [rounds_succ]
      go_wp2
      rw [rounds_succ]
      go_wp2
      go_ret
      exact ⟨by simp [c1, c2], (Fr.refl No w).alloc _⟩
    · go_enter Try.func21, Try.ntmps21
      go_wp2
      refine wp_loop_rounds 1 ?_
      rw [rounds_succ]
      go_wp2
      go_ret
      exact ⟨by simp [c2], (Fr.refl No w).alloc _⟩
  · go_enter Try.func21, Try.ntmps21
    go_wp2
    refine wp_loop_rounds 1 ?_
    rw [rounds_succ]
    go_wp2
    go_ret
    exact ⟨by simp; omega, (Fr.refl No w).alloc _⟩

/-- The memory of a Mutexes: who holds what, and how many there are. -/
structure MX (w : World) (p b : Nat) (n : Int) (m : List (Int × Int)) : Prop where
  cell : w.heap[p]? = some (.cells #[.map (some b), .int .i64 n] 54 (0, 0))
  holds : mapAt w b (fun a : Int => .int .i64 a) (fun a : Int => .int .i64 a) m

theorem MX.ne {w : World} {p b : Nat} {n : Int} {m : List (Int × Int)} (h : MX w p b n m) : p ≠ b := by
  obtain ⟨es, clock, hb, _⟩ := h.holds
  intro e
  have := h.cell
  rw [e, hb] at this
  cases this
theorem MX.fr {S : Nat → Prop} {w w' : World} {p b : Nat} {n : Int} {m : List (Int × Int)} (h : MX w p b n m) (f : Fr S w w') (hp : ¬ S p) (hb : ¬ S b) : MX w' p b n m :=
  ⟨f.at h.cell hp, h.holds.fr f hb⟩
theorem MX.lt {w : World} {p b : Nat} {n : Int} {m : List (Int × Int)} (h : MX w p b n m) : p < w.heap.size ∧ b < w.heap.size := ⟨lt_of_block h.cell, h.holds.lt⟩

theorem intKey : KeyE Try.prog 3 (fun a : Int => .int .i64 a) := KeyE.int Try.underlying3
theorem zeroInt (w : World) : (zeroValue 3).run Try.prog w = .ok (.int .i64 0) w := by kernel_rfl

theorem of_any (w : World) (b : Nat) (m : List (Int × Int)) (h : mapAt w b (fun a : Int => .int .i64 a) (fun a : Int => .int .i64 a) m) (i : Int) :
    Calls Try.prog 24 #[.map (some b), .int .i64 i] w fun e w' => e = .returned (.tuple #[.int .i64 ((look m i).getD 0), .bool (look m i).isSome]) ∧ w = w' := by
  have hl := h.lookup intKey Try.underlying52 (zeroInt w) i true
  have e1 : ((look m i).map (fun a : Int => Value.int .i64 a)).getD (.int .i64 0) = .int .i64 ((look m i).getD 0) := by cases look m i <;> rfl
  rw [e1] at hl
  clear e1 h
  generalize look m i = r at hl
  go_enter Try.func24, Try.ntmps24
  go_wp2
  go_ret2
  exact ⟨rfl, rfl⟩

theorem new_no (n : Int) (w : World) (h : ¬ (0 ≤ n ∧ n ≤ 64)) : Calls Try.prog 8 #[.int .i64 n] w fun e w' => e = .returned (.tuple #[.pointer none, .int .i64 2]) ∧ Fr No w w' := by
  have hd : decide (0 ≤ n ∧ n ≤ 64) = false := by simpa using h
  clear h
  go_enter Try.func8, Try.ntmps8
  go_wp2_with (go_at_call 21; refine (fine_one _ _ n 64 ((blk_cell (blk_new _ _) 0).trans rfl) ((blk_cell (blk_new _ _) 1).trans rfl)).mono ?_; rintro e w1 ⟨rfl, hf⟩)
  go_ret2
  exact ⟨rfl, ((Fr.refl No w).alloc _).to hf (fun _ _ s => s)⟩

theorem new_yes (n : Int) (w : World) (h : 0 ≤ n ∧ n ≤ 64) : Calls Try.prog 8 #[.int .i64 n] w fun e w' => ∃ p b, e = .returned (.tuple #[.pointer (some ⟨p, 0, none⟩), .int .i64 0]) ∧ MX w' p b n [] ∧ w.heap.size ≤ p ∧ w.heap.size ≤ b ∧ Fr No w w' := by
  have hd : decide (0 ≤ n ∧ n ≤ 64) = true := by simpa using h
  have hmm := @run_makeMap Try.prog
  clear h
  go_enter Try.func8, Try.ntmps8
  go_wp2_with (go_at_call 21; refine (fine_one _ _ n 64 ((blk_cell (blk_new _ _) 0).trans rfl) ((blk_cell (blk_new _ _) 1).trans rfl)).mono ?_; rintro e w1 ⟨rfl, hf⟩)
  go_ret2
  have hsz := hf.size
  simp at hsz
  exact ⟨_, w1.heap.size, rfl, ⟨by simpa using blk_new (w1.alloc (.map #[] 0)) _, (mapAt_made w1 _ _).alloc _⟩, by first | omega | (simp; omega), by omega, ((((Fr.refl No w).alloc _).to hf (fun _ _ s => s)).alloc _).alloc _⟩

end Go.Proofs.Ytgeikokmhkfkgaa.L
