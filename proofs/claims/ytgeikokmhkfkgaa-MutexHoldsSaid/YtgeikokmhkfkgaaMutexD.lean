/- MutexHolds: between two Locks of one mutex that were not refused there was an Unlock: the walk. -/
import Derived.Test.YtgeikokmhkfkgaaMutexC
import Derived.Test.YtgeikokmhkfkgaaArgs
namespace Go.Proofs.Ytgeikokmhkfkgaa.L
open Go.RowKit

/-- An Act: what is called, on which mutex, by whom. -/
structure Act13 where
  what : Int
  i : Int
  by_ : Int
def enAct (a : Act13) : List Value := [.int .i64 a.what, .int .i64 a.i, .int .i64 a.by_]
def deAct : List Value → Act13
  | [.int _ a, .int _ b, .int _ c] => ⟨a, b, c⟩
  | _ => ⟨0, 0, 0⟩
def wfAct (a : Act13) : Prop := (Lit.int .i64 a.what).wf = true ∧ (Lit.int .i64 a.i).wf = true ∧ (Lit.int .i64 a.by_).wf = true
theorem deAct_ok : ∀ cs, cksOk [.int .i64, .int .i64, .int .i64] cs → enAct (deAct cs) = cs ∧ wfAct (deAct cs)
  | [a, b, c], ⟨⟨x, hx, wx⟩, ⟨y, hy, wy⟩, ⟨z, hz, wz⟩, _⟩ => by subst hx hy hz; exact ⟨rfl, wx, wy, wz⟩
  | [], h => h.elim
  | [_], h => h.2.elim
  | [_, _], h => h.2.2.elim
  | _ :: _ :: _ :: _ :: _, h => h.2.2.2.elim

/-- An element's cells, in the walk's own spelling. -/
theorem act_cells {w : World} {b off : Nat} {l : List Act13} (h : ∀ (i : Nat) (x : Act13), l[i]? = some x → ∀ (j : Nat) (v : Value), (enAct x)[j]? = some v → w.cell? ⟨b, off + (i * 3 + j), none⟩ = some v) {i : Nat} {x : Act13} (hi : l[i]? = some x) :
    w.cell? ⟨b, off + i * 3, none⟩ = some (.int .i64 x.what) ∧ w.cell? ⟨b, off + i * 3 + 1, none⟩ = some (.int .i64 x.i) ∧ w.cell? ⟨b, off + i * 3 + 2, none⟩ = some (.int .i64 x.by_) :=
  ⟨h i x hi 0 _ rfl, h i x hi 1 _ rfl, h i x hi 2 _ rfl⟩

theorem holds_works (n : Int) (A : Option Addr) (len cap : Nat) (w : World) (h : n < 1 ∨ 64 < n ∨ 100 < len) :
    Calls Try.prog 3 #[.int .i64 n, .slice A len cap] w fun e w' => e = .returned (.bool true) ∧ Fr No w w' := by
  by_cases h1 : n < 1
  · go_enter Try.func3, Try.ntmps3
    go_wp2_with (go_at_call 7; refine (works13 _).mono ?_; rintro e w1 ⟨rfl, hf⟩)
    go_ret
    exact ⟨rfl, hf⟩
  · by_cases h2 : 64 < n
    · go_enter Try.func3, Try.ntmps3
      go_wp2_with (go_at_call 7; refine (works13 _).mono ?_; rintro e w1 ⟨rfl, hf⟩)
      go_ret
      exact ⟨rfl, hf⟩
    · have h3 : 100 < len := by omega
      go_enter Try.func3, Try.ntmps3
      go_wp2_with (go_at_call 7; refine (works13 _).mono ?_; rintro e w1 ⟨rfl, hf⟩)
      go_ret
      exact ⟨rfl, hf⟩

end Go.Proofs.Ytgeikokmhkfkgaa.L
