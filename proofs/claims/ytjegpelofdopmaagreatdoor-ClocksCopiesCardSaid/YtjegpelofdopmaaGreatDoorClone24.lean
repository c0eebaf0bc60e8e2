/- Layer 24: copies of goroutines' and things' vectors. -/
import Derived.Test.YtjegpelofdopmaaGreatDoorT21
import Derived.Test.YtjegpelofdopmaaGreatDoorLay
import Derived.Shelf.SlMaps.Clone
namespace Go.Proofs.YtjegpelofdopmaaGreatDoor.L
open Go.RowKit Go.MapKept Go.Maps Go.Shelf

theorem e_cloneG {b : Nat} {h : List (Int × SV)} (w : World) (hm : (mapR b (fun a : Int => Value.int .i64 a) SV.v h).p w) :
    Calls Tryz.prog 54 #[.map (some b)] w fun e w' => ∃ b' : Nat, e = .returned (.map (some b')) ∧ Made (mapR b' (fun a : Int => Value.int .i64 a) SV.v h) w w' := by
  obtain ⟨es, clock, hb, hs, hkv⟩ := show mapAt w b (fun a : Int => Value.int .i64 a) SV.v h from hm
  have hc := AnyW.maps_Clone (P := Tryz.prog) (ρ := Tryz.cloneG_ren) Tryz.cloneG b es clock w hb
  change Calls Tryz.prog 54 _ _ _ at hc
  refine hc.mono ?_
  rintro e w' ⟨rfl, rfl⟩
  exact ⟨_, rfl, (Fr.refl No w).alloc _, ⟨es, clock, blk_new w _, hs, hkv⟩, fun x hx => by simp [mapR] at hx; subst hx; simp⟩
theorem e_cloneT {b : Nat} {h : List (Thing × SV)} (w : World) (hm : (mapR b Thing.v SV.v h).p w) :
    Calls Tryz.prog 55 #[.map (some b)] w fun e w' => ∃ b' : Nat, e = .returned (.map (some b')) ∧ Made (mapR b' Thing.v SV.v h) w w' := by
  obtain ⟨es, clock, hb, hs, hkv⟩ := show mapAt w b Thing.v SV.v h from hm
  have hc := AnyW.maps_Clone (P := Tryz.prog) (ρ := Tryz.cloneT_ren) Tryz.cloneT b es clock w hb
  change Calls Tryz.prog 55 _ _ _ at hc
  refine hc.mono ?_
  rintro e w' ⟨rfl, rfl⟩
  exact ⟨_, rfl, (Fr.refl No w).alloc _, ⟨es, clock, blk_new w _, hs, hkv⟩, fun x hx => by simp [mapR] at hx; subst hx; simp⟩
end Go.Proofs.YtjegpelofdopmaaGreatDoor.L
