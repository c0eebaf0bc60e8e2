/- Contracts of package report: tables. -/
import Derived.Test.YtgkhaoogfpnbbaaReport
import Derived.Test.YtgkhaoogfpnbbaaSiteE
import Derived.StillTailTactics
import Derived.Laws.AppendOwn
import Derived.ArgAppend
import Derived.Test.YtgkhaoogfpnbbaaArgs
namespace Go.Proofs.Ytgkhaoogfpnbbaa.L
open Go.RowKit

/-- A table: how many reports at most, how many dropped, the pairs, the reports. -/
structure Tab where
  most : Int
  dropped : Int
  m : List (Pair × Int)
  l : List Flag

def flagCells (l : List Flag) : List Value := l.flatMap fun f => f.cells.toList
theorem len_flagCells (l : List Flag) : (flagCells l).length = l.length * 10 := by
  induction l with
  | nil => rfl
  | cons f l ih => show (f.cells.toList ++ flagCells l).length = _; rw [List.length_append, ih]; simp [Flag.cells]; omega

/-- The memory of a table. -/
structure TX (w : World) (base t p b : Nat) (v : Value) (T : Tab) : Prop where
  cell : w.heap[t]? = some (.cells #[.pointer (some ⟨p, 0, none⟩), .int .i64 T.most, .int .i64 T.dropped, v] 61 (0, 0))
  px : PX w p b T.m
  own : w.ownsRow base 43 10 v T.l.length (flagCells T.l)

theorem own_form {w : World} {base : Nat} {e : TypeId} {size : Nat} {v : Value} {n : Nat} {xs : List Value} (h : w.ownsRow base e size v n xs) :
    ∃ A c, v = .slice A n c ∧ (A = none → n = 0 ∧ c = 0) ∧ n ≤ c ∧ (∀ a, A = some a → ∃ g, a = ⟨g, 0, none⟩ ∧ base ≤ g ∧ g < w.heap.size ∧ (∃ cur, w.heap[g]? = some (.cells cur e (0, 0)))) ∧ ∀ a, A = some a → ∀ j u, xs[j]? = some u → w.cell? (a.add j) = some u := by
  have hc := fun g hg => World.ownsRow.cells h (g := g) hg
  rcases h.2 with ⟨rfl, rfl⟩ | ⟨g, cap, cur, rfl, hb, hg, h1, h2, h3, h4⟩
  · exact ⟨none, 0, rfl, fun _ => ⟨rfl, rfl⟩, Nat.le_refl _, (fun a ha => by cases ha), (fun a ha => by cases ha)⟩
  · exact ⟨_, cap, rfl, (fun h => by cases h), h1, (fun a ha => by cases ha; exact ⟨g, rfl, hb, lt_of_block hg, cur, hg⟩), (fun a ha => by cases ha; exact hc g rfl)⟩
theorem own_fr {S : Nat → Prop} {w w' : World} {base : Nat} {e : TypeId} {size : Nat} {v : Value} {n : Nat} {xs : List Value} (h : w.ownsRow base e size v n xs) (f : Fr S w w') (hn : ∀ k, v.ownBlock = some k → ¬ S k) : w'.ownsRow base e size v n xs := by
  refine ⟨h.1, ?_⟩
  rcases h.2 with hh | ⟨g, cap, cur, rfl, hb, hg, rest⟩
  · exact .inl hh
  · exact .inr ⟨g, cap, cur, rfl, hb, f.at hg (hn g rfl), rest⟩
theorem own_block {w : World} {base : Nat} {e : TypeId} {size : Nat} {v : Value} {n : Nat} {xs : List Value} (h : w.ownsRow base e size v n xs) {k : Nat} (hk : v.ownBlock = some k) : base ≤ k ∧ ∃ cur, w.heap[k]? = some (.cells cur e (0, 0)) := by
  rcases h.2 with ⟨rfl, rfl⟩ | ⟨g, cap, cur, rfl, hb, hg, h1, h2, h3, h4⟩
  · cases hk
  · cases hk; exact ⟨hb, cur, hg⟩

section
variable {w : World} {base t p b : Nat} {v : Value} {T : Tab}
theorem TX.tp (h : TX w base t p b v T) : t ≠ p := by
  intro e
  have h1 := h.cell
  have h2 := h.px.cell
  rw [e, h2] at h1
  cases h1
theorem TX.tb (h : TX w base t p b v T) : t ≠ b := by
  intro e
  obtain ⟨es, clock, hb, _⟩ := h.px.holds
  have h1 := h.cell
  rw [e, hb] at h1
  cases h1
theorem TX.vt (h : TX w base t p b v T) {k : Nat} (hk : v.ownBlock = some k) : k ≠ t ∧ k ≠ p ∧ k ≠ b := by
  obtain ⟨hb, cur, hc⟩ := own_block h.own hk
  refine ⟨fun e => ?_, fun e => ?_, fun e => ?_⟩
  · have h1 := h.cell
    rw [← e, hc] at h1
    cases h1
  · have h1 := h.px.cell
    rw [← e, hc] at h1
    cases h1
  · obtain ⟨es, clock, hb, _⟩ := h.px.holds
    rw [← e, hc] at hb
    cases hb
theorem TX.fr {S : Nat → Prop} {w' : World} (h : TX w base t p b v T) (f : Fr S w w') (h1 : ¬ S t) (h2 : ¬ S p) (h3 : ¬ S b) (h4 : ∀ k, v.ownBlock = some k → ¬ S k) : TX w' base t p b v T :=
  ⟨f.at h.cell h1, h.px.fr f h2 h3, own_fr h.own f h4⟩
theorem TX.no {w' : World} (h : TX w base t p b v T) (f : Fr No w w') : TX w' base t p b v T := h.fr f (fun s => s) (fun s => s) (fun s => s) (fun _ _ s => s)
end

theorem tnone_at (w : World) (t : Nat) (r : Option Addr) (h : w.cell? ⟨t, 0, none⟩ = some (.pointer r)) : Calls Try.prog 29 #[.pointer (some ⟨t, 0, none⟩)] w fun e w' => e = .returned (.bool r.isNone) ∧ w = w' := by
  cases r
  · go_enter Try.func29, Try.ntmps29
    go_wp2
    go_ret
    exact ⟨rfl, rfl⟩
  · go_enter Try.func29, Try.ntmps29
    go_wp2
    go_ret
    exact ⟨rfl, rfl⟩
theorem tnone_nil (w : World) : Calls Try.prog 29 #[.pointer none] w fun e w' => e = .returned (.bool true) ∧ w = w' := by
  go_enter Try.func29, Try.ntmps29
  go_wp2
  go_ret
  exact ⟨rfl, rfl⟩

theorem tNew_no (most : Int) (w : World) (h : ¬ (0 ≤ most ∧ most ≤ 65536)) : Calls Try.prog 13 #[.int .i64 most] w fun e w' => e = .returned (.tuple #[.pointer none, .int .i64 2]) ∧ Fr No w w' := by
  have hB := fun w => between_any most 0 65536 w
  have : (decide (0 ≤ most) && decide (most ≤ 65536)) = false := by simpa using h
  rw [this] at hB
  clear h this
  go_enter Try.func13, Try.ntmps13
  go_wp2_with fail
  refine wp_fwd (l := 0) rfl ?_
  go_wp2_with fail
  refine (hB _).mono ?_
  rintro e w1 ⟨rfl, rfl⟩
  go_wp2_with fail
  go_step3
  refine ⟨rfl, ?_⟩
  go_wp2_with fail
  rw [Exit.noGoto_ret]
  go_ret2
  exact ⟨rfl, Fr.refl _ _⟩

theorem tNew_yes (most : Int) (w : World) (h : 0 ≤ most ∧ most ≤ 65536) : Calls Try.prog 13 #[.int .i64 most] w fun e w' => ∃ t p b, e = .returned (.tuple #[.pointer (some ⟨t, 0, none⟩), .int .i64 0]) ∧ w.heap.size ≤ t ∧ w.heap.size ≤ p ∧ w.heap.size ≤ b ∧ TX w' w.heap.size t p b (.slice none 0 0) ⟨most, 0, [], []⟩ ∧ Fr No w w' := by
  have hB := fun w => between_any most 0 65536 w
  have : (decide (0 ≤ most) && decide (most ≤ 65536)) = true := by simpa using h
  rw [this] at hB
  clear h this
  have HS := Lib.hid (fun w => sNew_empty w)
  go_enter Try.func13, Try.ntmps13
  go_wp2_with fail
  refine wp_fwd (l := 0) rfl ?_
  go_wp2_with fail
  refine (hB _).mono ?_
  rintro e w1 ⟨rfl, rfl⟩
  go_wp2_with fail
  refine (HS.out _).mono ?_
  rintro e w1 ⟨p, b, rfl, hp, hb, hm, hf⟩
  have HM := Lib.hid hm
  have HF := Lib.hid hf
  clear hm hf
  go_wp2_with fail
  rw [fwd_ret]
  go_ret2
  refine ⟨_, p, b, rfl, HF.out.size, hp, hb, ⟨blk_new _ _, HM.out.fr ((Fr.refl No w1).alloc _) (fun s => s) (fun s => s), World.ownsRow_nil _ _ _ _⟩, HF.out.alloc _⟩
end Go.Proofs.Ytgkhaoogfpnbbaa.L
