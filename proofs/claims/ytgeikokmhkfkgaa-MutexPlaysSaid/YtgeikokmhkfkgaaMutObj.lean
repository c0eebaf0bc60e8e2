/- Layer 13: mutexes, as one piece of a world. -/
import Derived.Test.YtgeikokmhkfkgaaE10
import Derived.Test.YtgeikokmhkfkgaaProg
namespace Go.Proofs.Ytgeikokmhkfkgaa.L
open Go.RowKit Go.MapKept Go.Maps

/-- Mutexes: who holds which; how many there are. -/
def MutR (m b : Nat) (h : List (Int × Int)) (many : Int) : Res := allR [Cel m #[Value.map (some b), Value.int .i64 many] 54, mapR b (fun a : Int => Value.int .i64 a) (fun a : Int => Value.int .i64 a) h]
end Go.Proofs.Ytgeikokmhkfkgaa.L
