/- The engine: what an object that is turned hands back. -/
import Derived.Test.YtoakhhilmnfpkaaGreatDoorE10
namespace Go.Proofs.YtoakhhilmnfpkaaGreatDoor.L
open Go.RowKit Go.MapKept Go.Maps

/-- A piece is turned, and another is handed back that bears nothing of it. -/
theorem Ws.addFromU {w0 w w' : World} {S : Nat → Prop} {H H' G G2 : List Res} (h0 : Ws w0 S H G w) (h : Ws w0 S H' G2 w') (i : Nat) {r r' : Res} (_ : H[i]? = some r) (hH : H.set i r' = H') {g : Res} {Gs : List Res} (hg : g.from_ Gs w w') (hs : ∀ x ∈ Gs, ∀ b ∈ x.fp, ∃ y ∈ G, b ∈ y.fp) (hd : ∀ b ∈ r'.fp, b ∉ g.fp) : Ws w0 S H' (g :: G2) w' :=
  h.addG g hg.1 (fun b hb => (hg.2 b hb).1) (fun q hq b hb hb' => by
    subst hH
    rcases List.mem_or_eq_of_mem_set hq with hq | rfl
    · rcases (hg.2 b hb').2 with ⟨x, hx, hxb⟩ | h1
      · obtain ⟨y, hy, hyb⟩ := hs x hx b hxb
        exact h0.gd y hy q hq b hb hyb
      · have := h0.lt q hq b hb; omega
    · exact hd b hb hb')
end Go.Proofs.YtoakhhilmnfpkaaGreatDoor.L
