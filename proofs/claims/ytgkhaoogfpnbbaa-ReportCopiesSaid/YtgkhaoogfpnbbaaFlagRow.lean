/- Flags, as they lie in a row: read back. -/
import Derived.Test.YtgkhaoogfpnbbaaReportE
import Derived.Test.YtgkhaoogfpnbbaaArgs
namespace Go.Proofs.Ytgkhaoogfpnbbaa.L
open Go.RowKit


/-- A flag out of its cells. -/
def deFlag : List Value → Flag
  | [.int _ a, .int _ b, .int _ c, .int _ d, .int _ e, .int _ f, .int _ g, .int _ h, .int _ i, .int _ j] => ⟨a, b, ⟨c, ⟨d, e⟩, f⟩, ⟨g, ⟨h, i⟩, j⟩⟩
  | _ => ⟨0, 0, ⟨0, ⟨0, 0⟩, 0⟩, ⟨0, ⟨0, 0⟩, 0⟩⟩
def wfFlag (_ : Flag) : Prop := True
theorem deFlag_ok (cs : List Value) (h : cksOk [.int .i64, .int .u32, .int .i64, .int .i64, .int .i64, .int .i64, .int .i64, .int .i64, .int .i64, .int .i64] cs) : enFlag (deFlag cs) = cs ∧ wfFlag (deFlag cs) := by
  have hl := cksOk_length h
  match cs, hl, h with
  | [c0, c1, c2, c3, c4, c5, c6, c7, c8, c9], _, ⟨⟨_, h0, _⟩, ⟨_, h1, _⟩, ⟨_, h2, _⟩, ⟨_, h3, _⟩, ⟨_, h4, _⟩, ⟨_, h5, _⟩, ⟨_, h6, _⟩, ⟨_, h7, _⟩, ⟨_, h8, _⟩, ⟨_, h9, _⟩, _⟩ =>
    subst h0 h1 h2 h3 h4 h5 h6 h7 h8 h9
    exact ⟨rfl, trivial⟩

end Go.Proofs.Ytgkhaoogfpnbbaa.L
