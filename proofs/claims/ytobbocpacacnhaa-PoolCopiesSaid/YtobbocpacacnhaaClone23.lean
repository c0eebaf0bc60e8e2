/- Layer 23: a map's copy. -/
import Derived.Test.YtobbocpacacnhaaT4
import Derived.Test.YtobbocpacacnhaaLay
import Derived.Shelf.SlMaps.Clone
namespace Go.Proofs.Ytobbocpacacnhaa.L
open Go.RowKit Go.MapKept Go.Maps Go.Shelf

theorem e_clone {b : Nat} {h : List (Int × Mark)} (w : World) (hm : (mapR b (fun a : Int => Value.int .i64 a) Mark.v h).p w) :
    Calls Try.prog 28 #[.map (some b)] w fun e w' => ∃ b' : Nat, e = .returned (.map (some b')) ∧ Made (mapR b' (fun a : Int => Value.int .i64 a) Mark.v h) w w' := by
  obtain ⟨es, clock, hb, hs, hkv⟩ := show mapAt w b (fun a : Int => Value.int .i64 a) Mark.v h from hm
  have hc := AnyW.maps_Clone (P := Try.prog) (ρ := Try.cloneM_ren) Try.cloneM b es clock w hb
  change Calls Try.prog 28 _ _ _ at hc
  refine hc.mono ?_
  rintro e w' ⟨rfl, rfl⟩
  exact ⟨_, rfl, (Fr.refl No w).alloc _, ⟨es, clock, blk_new w _, hs, hkv⟩, fun x hx => by simp [mapR] at hx; subst hx; simp⟩
end Go.Proofs.Ytobbocpacacnhaa.L
