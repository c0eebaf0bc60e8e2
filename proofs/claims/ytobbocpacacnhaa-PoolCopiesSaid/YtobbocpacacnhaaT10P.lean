/- Contracts, walked by program over the engine's laws. -/
import Derived.Test.YtobbocpacacnhaaProg
import Derived.Test.YtobbocpacacnhaaT9P
namespace Go.Proofs.Ytobbocpacacnhaa.L
open Go.RowKit

theorem each_id {o : Option MarkM} {pre : List (Int × Mark)} {x : Int × Mark} (hb : ∀ m, o = some m → ∀ y ∈ m, 0 ≤ y.1 ∧ y.1 ≤ 65536) (hc : Comes (EachR o) pre x) : 0 ≤ x.1 ∧ x.1 ≤ 65536 := by
  obtain ⟨xs, ⟨ks, hp, -, rfl⟩, t, ht⟩ := hc
  have hx : x ∈ ks.map fun i => (i, markAt (o.getD []) i) := by rw [← ht]; simp
  obtain ⟨i, hi, rfl⟩ := List.mem_map.1 hx
  have hi' := (hp.mem_iff (a := i)).1 hi
  cases o with
  | none => simp [keys] at hi'
  | some m =>
    obtain ⟨y, hy, rfl⟩ := List.mem_map.1 hi'
    exact hb m rfl y hy
def deU : List Value → Int
  | [.int _ a] => a
  | _ => 0
def wfU (_ : Int) : Prop := True
theorem deU_ok (cs : List Value) (h : cksOk [.int .u64] cs) : enU (deU cs) = cs ∧ wfU (deU cs) := by
  have hl := cksOk_length h
  match cs, hl, h with
  | [c0], _, ⟨⟨_, h0, _⟩, _⟩ => subst h0; exact ⟨rfl, trivial⟩

end Go.Proofs.Ytobbocpacacnhaa.L
