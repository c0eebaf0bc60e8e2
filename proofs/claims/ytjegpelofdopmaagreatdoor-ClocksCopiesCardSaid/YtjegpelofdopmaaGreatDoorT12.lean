/- Contracts, walked by program over the engine's laws. -/
import Derived.Test.YtjegpelofdopmaaGreatDoorProg
import Derived.Test.YtjegpelofdopmaaGreatDoorT11
namespace Go.Proofs.YtjegpelofdopmaaGreatDoor.L
open Go.RowKit
open Go.Value renaming int → vI, slice → vS, bool → vB, pointer → vP, func → vF, agg → vA, map → vM, tuple → vT

def kw0 : KSt := kst0
def kx0 : Event := (⟨0, 4, ⟨0, 0⟩, 0, 1, 0, 0, 0⟩ : Event)
def kw1 : KSt := (comeK 3 kw0 kx0).1
set_option maxRecDepth 100000 in
theorem kc0 : comeK 3 kw0 kx0 = (kw1, 1, 0) := Prod.ext rfl (Prod.ext (by decide) (by decide))
set_option maxRecDepth 100000 in
theorem ko0 : kw0.g kx0.g ≠ none → getC (kacc kw0 kx0) kx0.g = getC (gv kw0 kx0.g) kx0.g := by decide
def kx1 : Event := (⟨1, 6, ⟨0, 0⟩, 0, 0, 0, 0, 0⟩ : Event)
def kw2 : KSt := (comeK 3 kw1 kx1).1
set_option maxRecDepth 100000 in
theorem kc1 : comeK 3 kw1 kx1 = (kw2, 281474976710657, 0) := Prod.ext rfl (Prod.ext (by decide) (by decide))
set_option maxRecDepth 100000 in
theorem ko1 : kw1.g kx1.g ≠ none → getC (kacc kw1 kx1) kx1.g = getC (gv kw1 kx1.g) kx1.g := by decide
def kx2 : Event := (⟨0, 5, ⟨0, 0⟩, 0, 0, 0, 0, 0⟩ : Event)
def kw3 : KSt := (comeK 3 kw2 kx2).1
set_option maxRecDepth 100000 in
theorem kc2 : comeK 3 kw2 kx2 = (kw3, 2, 0) := Prod.ext rfl (Prod.ext (by decide) (by decide))
set_option maxRecDepth 100000 in
theorem ko2 : kw2.g kx2.g ≠ none → getC (kacc kw2 kx2) kx2.g = getC (gv kw2 kx2.g) kx2.g := by decide
def kx3 : Event := (⟨0, 6, ⟨0, 0⟩, 0, 0, 0, 0, 0⟩ : Event)
def kw4 : KSt := (comeK 3 kw3 kx3).1
set_option maxRecDepth 100000 in
theorem kc3 : comeK 3 kw3 kx3 = (kw4, 2, 0) := Prod.ext rfl (Prod.ext (by decide) (by decide))
set_option maxRecDepth 100000 in
theorem ko3 : kw3.g kx3.g ≠ none → getC (kacc kw3 kx3) kx3.g = getC (gv kw3 kx3.g) kx3.g := by decide
def kx4 : Event := (⟨0, 6, ⟨0, 0⟩, 0, 0, 0, 0, 0⟩ : Event)
def kw5 : KSt := (comeK 3 kw4 kx4).1
set_option maxRecDepth 100000 in
theorem kc4 : comeK 3 kw4 kx4 = (kw5, 0, 130) := Prod.ext rfl (Prod.ext (by decide) (by decide))
set_option maxRecDepth 100000 in
theorem ko4 : kw4.g kx4.g ≠ none → getC (kacc kw4 kx4) kx4.g = getC (gv kw4 kx4.g) kx4.g := by decide
def kx5 : Event := (⟨0, 5, ⟨0, 0⟩, 0, 0, 0, 0, 0⟩ : Event)
def kw6 : KSt := (comeK 3 kw5 kx5).1
set_option maxRecDepth 100000 in
theorem kc5 : comeK 3 kw5 kx5 = (kw6, 3, 0) := Prod.ext rfl (Prod.ext (by decide) (by decide))
set_option maxRecDepth 100000 in
theorem ko5 : kw5.g kx5.g ≠ none → getC (kacc kw5 kx5) kx5.g = getC (gv kw5 kx5.g) kx5.g := by decide
def kx6 : Event := (⟨2, 2, ⟨0, 0⟩, 0, 0, 0, 0, 0⟩ : Event)
def kw7 : KSt := (comeK 3 kw6 kx6).1
set_option maxRecDepth 100000 in
theorem kc6 : comeK 3 kw6 kx6 = (kw7, 0, 4) := Prod.ext rfl (Prod.ext (by decide) (by decide))
set_option maxRecDepth 100000 in
theorem ko6 : kw6.g kx6.g ≠ none → getC (kacc kw6 kx6) kx6.g = getC (gv kw6 kx6.g) kx6.g := by decide
set_option maxRecDepth 100000 in
theorem kgv : gv kw1 0 = [2] ∧ gv kw1 1 = [1, 1] ∧ gv kw3 0 = [2, 1] := by decide
set_option maxRecDepth 100000 in
theorem e_works  (w : World)  : Calls Tryz.prog 8 #[] w (fun e w' => e = .returned (vB true) ∧ Fr No w w') := by
 refine enter_E 140 Tryz.func8 rfl rfl (by kernel_rfl) (L := []) (by kernel_rfl) ?_
 intro ac hA
 have hW := Ws.start w No
 refine wr <| st_p (vB false) hA ?_; clear hA ac; intro ac hA
 refine wn <| wr <| st_s hA (Runs.call (fun _ => by kernel_rfl) (e_knew (3) w (by first | decide | omega | assumption | exact ko0 | exact ko1 | exact ko2 | exact ko3 | exact ko4 | exact ko5 | exact ko6 | (rw [kgv.1]; decide) | (rw [kgv.2.1]; decide) | (rw [kgv.2.2]; decide))) ?_)
 rintro _ w1 ⟨n2, n3, n4, n5, n6, rfl, hw1_hK, hu_⟩; refine ⟨_, rfl, ?_⟩; replace hW := hW.made hu_; clear hA ac; intro ac hA
 refine st_p (vT #[pA n2 0, vI .i64 0]) hA fun ac hA => st_p (pA n2 0) hA fun ac hA => st_p (vI .i64 0) hA fun ac hA => st_p (pA n2 0) hA fun ac hA => st_p (vI .i64 0) hA fun ac hA => wn <| wp_seq ?_
 have hok0_ : ClkOk 3 0 kw0 n4 n6 := hw1_hK; replace hW : Ws w No [ClkR n2 n3 n4 n5 n6 (3) kw0 0] [] w1 := hW
 refine wp_region_lit <| st_p (pA n2 0) hA ?_; clear hA ac; intro ac hA
 refine st_s hA (Runs.callN (v := (⟨0, 4, ⟨0, 0⟩, 0, 1, 0, 0, 0⟩ : Event).v) (fun _ => by kernel_rfl) hW (e_of (0) (4) (1) w1) ?_); clear hA ac hW; intro w7 hW hfw7 ac hA
 refine st_s hA (Runs.call (fun _ => by kernel_rfl) (e_kcome n2 n3 n4 n5 n6 (3) kw0 0 (⟨0, 4, ⟨0, 0⟩, 0, 1, 0, 0, 0⟩ : Event) w7 ((hW).get 0 rfl) ((hW).lt _ (List.mem_of_getElem? (i := 0) rfl)) (by first | decide | omega | assumption | exact ko0 | exact ko1 | exact ko2 | exact ko3 | exact ko4 | exact ko5 | exact ko6 | (rw [kgv.1]; decide) | (rw [kgv.2.1]; decide) | (rw [kgv.2.2]; decide)) (by first | decide | omega | assumption | exact ko0 | exact ko1 | exact ko2 | exact ko3 | exact ko4 | exact ko5 | exact ko6 | (rw [kgv.1]; decide) | (rw [kgv.2.1]; decide) | (rw [kgv.2.2]; decide)) (by first | decide | omega | assumption | exact ko0 | exact ko1 | exact ko2 | exact ko3 | exact ko4 | exact ko5 | exact ko6 | (rw [kgv.1]; decide) | (rw [kgv.2.1]; decide) | (rw [kgv.2.2]; decide)) (by first | decide | omega | assumption | exact ko0 | exact ko1 | exact ko2 | exact ko3 | exact ko4 | exact ko5 | exact ko6 | (rw [kgv.1]; decide) | (rw [kgv.2.1]; decide) | (rw [kgv.2.2]; decide)) (by first | decide | omega | assumption | exact ko0 | exact ko1 | exact ko2 | exact ko3 | exact ko4 | exact ko5 | exact ko6 | (rw [kgv.1]; decide) | (rw [kgv.2.1]; decide) | (rw [kgv.2.2]; decide))) ?_)
 rintro _ w8 ⟨u9, u10, u11, u12, u13, rfl, hw8_hE, hw8_hK, hu_⟩; refine ⟨_, rfl, ?_⟩; replace hW := hW.upd (H' := [ClkR n2 n3 u12 n5 u13 (3) u9 (0 + 1)]) 0 rfl hu_ rfl; clear hA ac; intro ac hA
 refine st_p (vT #[vI .u64 u10, vI .i64 u11]) hA fun ac hA => st_p (vI .u64 u10) hA fun ac hA => st_p (vI .i64 u11) hA fun ac hA => st_p (vI .u64 u10) hA fun ac hA => st_p (vI .i64 u11) hA fun ac hA => wn <| wp_seq ?_
 have q_ := hw8_hE.trans (show comeK 3 kw0 _ = _ from kc0); have q1_ := congrArg Prod.fst q_; have q2_ := congrArg (fun z_ => z_.2.1) q_; have q3_ := congrArg (fun z_ => z_.2.2) q_; dsimp only at q1_ q2_ q3_; subst q1_ q2_ q3_; clear q_
 replace hW : Ws w No [ClkR n2 n3 u12 n5 u13 (3) kw1 (0 + 1)] [] w8 := hW
 refine wp_region_lit <| st_p (pA n2 0) hA ?_; clear hA ac; intro ac hA
 refine st_s hA (Runs.callRow (E := 29) (sz := 1) (en := enU8) (l := (gv kw1 (0))) (fun _ => by kernel_rfl) hW (e_kof n2 n3 u12 n5 u13 (3) kw1 (0 + 1) (0) w8 ((hW).get 0 rfl) ((hW).lt _ (List.mem_of_getElem? (i := 0) rfl)) (by first | decide | omega | assumption | exact ko0 | exact ko1 | exact ko2 | exact ko3 | exact ko4 | exact ko5 | exact ko6 | (rw [kgv.1]; decide) | (rw [kgv.2.1]; decide) | (rw [kgv.2.2]; decide)) (by first | decide | omega | assumption | exact ko0 | exact ko1 | exact ko2 | exact ko3 | exact ko4 | exact ko5 | exact ko6 | (rw [kgv.1]; decide) | (rw [kgv.2.1]; decide) | (rw [kgv.2.2]; decide))) ?_); clear hA ac hW; intro A15 c16 w14 hW hcc16 hfw14 ac hA
 refine st_p (pA n2 0) hA ?_; clear hA ac; intro ac hA
 refine st_s hA (Runs.callRow (E := 29) (sz := 1) (en := enU8) (l := (gv kw1 (1))) (fun _ => by kernel_rfl) hW (e_kof n2 n3 u12 n5 u13 (3) kw1 (0 + 1) (1) w14 ((hW).get 1 rfl) ((hW).lt _ (List.mem_of_getElem? (i := 1) rfl)) (by first | decide | omega | assumption | exact ko0 | exact ko1 | exact ko2 | exact ko3 | exact ko4 | exact ko5 | exact ko6 | (rw [kgv.1]; decide) | (rw [kgv.2.1]; decide) | (rw [kgv.2.2]; decide)) (by first | decide | omega | assumption | exact ko0 | exact ko1 | exact ko2 | exact ko3 | exact ko4 | exact ko5 | exact ko6 | (rw [kgv.1]; decide) | (rw [kgv.2.1]; decide) | (rw [kgv.2.2]; decide))) ?_); clear hA ac hW; intro A19 c20 w18 hW hcc20 hfw18 ac hA
 refine st_p (vS A15 (gv kw1 (0)).length c16) hA fun ac hA => st_p (vS A19 (gv kw1 (1)).length c20) hA fun ac hA => wn <| wr <| st_p (pA n2 0) hA ?_; clear hA ac; intro ac hA
 refine st_s hA (Runs.callN (v := (⟨1, 6, ⟨0, 0⟩, 0, 0, 0, 0, 0⟩ : Event).v) (fun _ => by kernel_rfl) hW (e_of (1) (6) (0) w18) ?_); clear hA ac hW; intro w22 hW hfw22 ac hA
 refine st_s hA (Runs.call (fun _ => by kernel_rfl) (e_kcome n2 n3 u12 n5 u13 (3) kw1 (0 + 1) (⟨1, 6, ⟨0, 0⟩, 0, 0, 0, 0, 0⟩ : Event) w22 ((hW).get 2 rfl) ((hW).lt _ (List.mem_of_getElem? (i := 2) rfl)) (by first | decide | omega | assumption | exact ko0 | exact ko1 | exact ko2 | exact ko3 | exact ko4 | exact ko5 | exact ko6 | (rw [kgv.1]; decide) | (rw [kgv.2.1]; decide) | (rw [kgv.2.2]; decide)) (by first | decide | omega | assumption | exact ko0 | exact ko1 | exact ko2 | exact ko3 | exact ko4 | exact ko5 | exact ko6 | (rw [kgv.1]; decide) | (rw [kgv.2.1]; decide) | (rw [kgv.2.2]; decide)) (by first | decide | omega | assumption | exact ko0 | exact ko1 | exact ko2 | exact ko3 | exact ko4 | exact ko5 | exact ko6 | (rw [kgv.1]; decide) | (rw [kgv.2.1]; decide) | (rw [kgv.2.2]; decide)) (by first | decide | omega | assumption | exact ko0 | exact ko1 | exact ko2 | exact ko3 | exact ko4 | exact ko5 | exact ko6 | (rw [kgv.1]; decide) | (rw [kgv.2.1]; decide) | (rw [kgv.2.2]; decide)) (by first | decide | omega | assumption | exact ko0 | exact ko1 | exact ko2 | exact ko3 | exact ko4 | exact ko5 | exact ko6 | (rw [kgv.1]; decide) | (rw [kgv.2.1]; decide) | (rw [kgv.2.2]; decide))) ?_)
 rintro _ w23 ⟨u24, u25, u26, u27, u28, rfl, hw23_hE, hw23_hK, hu_⟩; refine ⟨_, rfl, ?_⟩; replace hW := hW.upd (H' := [rowR 29 1 enU8 (vS A19 (gv kw1 (1)).length c20) (gv kw1 (1)), rowR 29 1 enU8 (vS A15 (gv kw1 (0)).length c16) (gv kw1 (0)), ClkR n2 n3 u27 n5 u28 (3) u24 ((0 + 1) + 1)]) 2 rfl hu_ rfl; clear hA ac; intro ac hA
 refine st_p (vT #[vI .u64 u25, vI .i64 u26]) hA fun ac hA => st_p (vI .u64 u25) hA fun ac hA => st_p (vI .i64 u26) hA fun ac hA => st_p (vI .u64 u25) hA fun ac hA => st_p (vI .i64 u26) hA fun ac hA => wn <| wp_seq ?_
 have q_ := hw23_hE.trans (show comeK 3 kw1 _ = _ from kc1); have q1_ := congrArg Prod.fst q_; have q2_ := congrArg (fun z_ => z_.2.1) q_; have q3_ := congrArg (fun z_ => z_.2.2) q_; dsimp only at q1_ q2_ q3_; subst q1_ q2_ q3_; clear q_
 replace hW : Ws w No [rowR 29 1 enU8 (vS A19 (gv kw1 (1)).length c20) (gv kw1 (1)), rowR 29 1 enU8 (vS A15 (gv kw1 (0)).length c16) (gv kw1 (0)), ClkR n2 n3 u27 n5 u28 (3) kw2 ((0 + 1) + 1)] [] w23 := hW
 refine wp_region_lit <| st_p (pA n2 0) hA ?_; clear hA ac; intro ac hA
 refine st_s hA (Runs.callN (v := (⟨0, 5, ⟨0, 0⟩, 0, 0, 0, 0, 0⟩ : Event).v) (fun _ => by kernel_rfl) hW (e_of (0) (5) (0) w23) ?_); clear hA ac hW; intro w29 hW hfw29 ac hA
 refine st_s hA (Runs.call (fun _ => by kernel_rfl) (e_kcome n2 n3 u27 n5 u28 (3) kw2 ((0 + 1) + 1) (⟨0, 5, ⟨0, 0⟩, 0, 0, 0, 0, 0⟩ : Event) w29 ((hW).get 2 rfl) ((hW).lt _ (List.mem_of_getElem? (i := 2) rfl)) (by first | decide | omega | assumption | exact ko0 | exact ko1 | exact ko2 | exact ko3 | exact ko4 | exact ko5 | exact ko6 | (rw [kgv.1]; decide) | (rw [kgv.2.1]; decide) | (rw [kgv.2.2]; decide)) (by first | decide | omega | assumption | exact ko0 | exact ko1 | exact ko2 | exact ko3 | exact ko4 | exact ko5 | exact ko6 | (rw [kgv.1]; decide) | (rw [kgv.2.1]; decide) | (rw [kgv.2.2]; decide)) (by first | decide | omega | assumption | exact ko0 | exact ko1 | exact ko2 | exact ko3 | exact ko4 | exact ko5 | exact ko6 | (rw [kgv.1]; decide) | (rw [kgv.2.1]; decide) | (rw [kgv.2.2]; decide)) (by first | decide | omega | assumption | exact ko0 | exact ko1 | exact ko2 | exact ko3 | exact ko4 | exact ko5 | exact ko6 | (rw [kgv.1]; decide) | (rw [kgv.2.1]; decide) | (rw [kgv.2.2]; decide)) (by first | decide | omega | assumption | exact ko0 | exact ko1 | exact ko2 | exact ko3 | exact ko4 | exact ko5 | exact ko6 | (rw [kgv.1]; decide) | (rw [kgv.2.1]; decide) | (rw [kgv.2.2]; decide))) ?_)
 rintro _ w30 ⟨u31, u32, u33, u34, u35, rfl, hw30_hE, hw30_hK, hu_⟩; refine ⟨_, rfl, ?_⟩; replace hW := hW.upd (H' := [rowR 29 1 enU8 (vS A19 (gv kw1 (1)).length c20) (gv kw1 (1)), rowR 29 1 enU8 (vS A15 (gv kw1 (0)).length c16) (gv kw1 (0)), ClkR n2 n3 u34 n5 u35 (3) u31 (((0 + 1) + 1) + 1)]) 2 rfl hu_ rfl; clear hA ac; intro ac hA
 refine st_p (vT #[vI .u64 u32, vI .i64 u33]) hA fun ac hA => st_p (vI .u64 u32) hA fun ac hA => st_p (vI .i64 u33) hA fun ac hA => st_p (vI .u64 u32) hA fun ac hA => st_p (vI .i64 u33) hA fun ac hA => wn <| wp_seq ?_
 have q_ := hw30_hE.trans (show comeK 3 kw2 _ = _ from kc2); have q1_ := congrArg Prod.fst q_; have q2_ := congrArg (fun z_ => z_.2.1) q_; have q3_ := congrArg (fun z_ => z_.2.2) q_; dsimp only at q1_ q2_ q3_; subst q1_ q2_ q3_; clear q_
 replace hW : Ws w No [rowR 29 1 enU8 (vS A19 (gv kw1 (1)).length c20) (gv kw1 (1)), rowR 29 1 enU8 (vS A15 (gv kw1 (0)).length c16) (gv kw1 (0)), ClkR n2 n3 u34 n5 u35 (3) kw3 (((0 + 1) + 1) + 1)] [] w30 := hW
 refine wp_region_lit <| st_p (pA n2 0) hA ?_; clear hA ac; intro ac hA
 refine st_s hA (Runs.callRow (E := 29) (sz := 1) (en := enU8) (l := (gv kw3 (0))) (fun _ => by kernel_rfl) hW (e_kof n2 n3 u34 n5 u35 (3) kw3 (((0 + 1) + 1) + 1) (0) w30 ((hW).get 2 rfl) ((hW).lt _ (List.mem_of_getElem? (i := 2) rfl)) (by first | decide | omega | assumption | exact ko0 | exact ko1 | exact ko2 | exact ko3 | exact ko4 | exact ko5 | exact ko6 | (rw [kgv.1]; decide) | (rw [kgv.2.1]; decide) | (rw [kgv.2.2]; decide)) (by first | decide | omega | assumption | exact ko0 | exact ko1 | exact ko2 | exact ko3 | exact ko4 | exact ko5 | exact ko6 | (rw [kgv.1]; decide) | (rw [kgv.2.1]; decide) | (rw [kgv.2.2]; decide))) ?_); clear hA ac hW; intro A37 c38 w36 hW hcc38 hfw36 ac hA
 refine st_p (vS A37 (gv kw3 (0)).length c38) hA ?_; clear hA ac; intro ac hA
 refine wn <| wr <| st_p (pA n2 0) hA ?_; clear hA ac; intro ac hA
 refine st_s hA (Runs.callN (v := (⟨0, 6, ⟨0, 0⟩, 0, 0, 0, 0, 0⟩ : Event).v) (fun _ => by kernel_rfl) hW (e_of (0) (6) (0) w36) ?_); clear hA ac hW; intro w40 hW hfw40 ac hA
 refine st_s hA (Runs.call (fun _ => by kernel_rfl) (e_kcome n2 n3 u34 n5 u35 (3) kw3 (((0 + 1) + 1) + 1) (⟨0, 6, ⟨0, 0⟩, 0, 0, 0, 0, 0⟩ : Event) w40 ((hW).get 3 rfl) ((hW).lt _ (List.mem_of_getElem? (i := 3) rfl)) (by first | decide | omega | assumption | exact ko0 | exact ko1 | exact ko2 | exact ko3 | exact ko4 | exact ko5 | exact ko6 | (rw [kgv.1]; decide) | (rw [kgv.2.1]; decide) | (rw [kgv.2.2]; decide)) (by first | decide | omega | assumption | exact ko0 | exact ko1 | exact ko2 | exact ko3 | exact ko4 | exact ko5 | exact ko6 | (rw [kgv.1]; decide) | (rw [kgv.2.1]; decide) | (rw [kgv.2.2]; decide)) (by first | decide | omega | assumption | exact ko0 | exact ko1 | exact ko2 | exact ko3 | exact ko4 | exact ko5 | exact ko6 | (rw [kgv.1]; decide) | (rw [kgv.2.1]; decide) | (rw [kgv.2.2]; decide)) (by first | decide | omega | assumption | exact ko0 | exact ko1 | exact ko2 | exact ko3 | exact ko4 | exact ko5 | exact ko6 | (rw [kgv.1]; decide) | (rw [kgv.2.1]; decide) | (rw [kgv.2.2]; decide)) (by first | decide | omega | assumption | exact ko0 | exact ko1 | exact ko2 | exact ko3 | exact ko4 | exact ko5 | exact ko6 | (rw [kgv.1]; decide) | (rw [kgv.2.1]; decide) | (rw [kgv.2.2]; decide))) ?_)
 rintro _ w41 ⟨u42, u43, u44, u45, u46, rfl, hw41_hE, hw41_hK, hu_⟩; refine ⟨_, rfl, ?_⟩; replace hW := hW.upd (H' := [rowR 29 1 enU8 (vS A37 (gv kw3 (0)).length c38) (gv kw3 (0)), rowR 29 1 enU8 (vS A19 (gv kw1 (1)).length c20) (gv kw1 (1)), rowR 29 1 enU8 (vS A15 (gv kw1 (0)).length c16) (gv kw1 (0)), ClkR n2 n3 u45 n5 u46 (3) u42 ((((0 + 1) + 1) + 1) + 1)]) 3 rfl hu_ rfl; clear hA ac; intro ac hA
 refine st_p (vT #[vI .u64 u43, vI .i64 u44]) hA fun ac hA => st_p (vI .u64 u43) hA fun ac hA => st_p (vI .i64 u44) hA fun ac hA => st_p (vI .u64 u43) hA fun ac hA => st_p (vI .i64 u44) hA fun ac hA => wn <| wp_seq ?_
 have q_ := hw41_hE.trans (show comeK 3 kw3 _ = _ from kc3); have q1_ := congrArg Prod.fst q_; have q2_ := congrArg (fun z_ => z_.2.1) q_; have q3_ := congrArg (fun z_ => z_.2.2) q_; dsimp only at q1_ q2_ q3_; subst q1_ q2_ q3_; clear q_
 replace hW : Ws w No [rowR 29 1 enU8 (vS A37 (gv kw3 (0)).length c38) (gv kw3 (0)), rowR 29 1 enU8 (vS A19 (gv kw1 (1)).length c20) (gv kw1 (1)), rowR 29 1 enU8 (vS A15 (gv kw1 (0)).length c16) (gv kw1 (0)), ClkR n2 n3 u45 n5 u46 (3) kw4 ((((0 + 1) + 1) + 1) + 1)] [] w41 := hW
 refine wp_region_lit <| st_p (pA n2 0) hA ?_; clear hA ac; intro ac hA
 refine st_s hA (Runs.callN (v := (⟨0, 6, ⟨0, 0⟩, 0, 0, 0, 0, 0⟩ : Event).v) (fun _ => by kernel_rfl) hW (e_of (0) (6) (0) w41) ?_); clear hA ac hW; intro w47 hW hfw47 ac hA
 refine st_s hA (Runs.call (fun _ => by kernel_rfl) (e_kcome n2 n3 u45 n5 u46 (3) kw4 ((((0 + 1) + 1) + 1) + 1) (⟨0, 6, ⟨0, 0⟩, 0, 0, 0, 0, 0⟩ : Event) w47 ((hW).get 3 rfl) ((hW).lt _ (List.mem_of_getElem? (i := 3) rfl)) (by first | decide | omega | assumption | exact ko0 | exact ko1 | exact ko2 | exact ko3 | exact ko4 | exact ko5 | exact ko6 | (rw [kgv.1]; decide) | (rw [kgv.2.1]; decide) | (rw [kgv.2.2]; decide)) (by first | decide | omega | assumption | exact ko0 | exact ko1 | exact ko2 | exact ko3 | exact ko4 | exact ko5 | exact ko6 | (rw [kgv.1]; decide) | (rw [kgv.2.1]; decide) | (rw [kgv.2.2]; decide)) (by first | decide | omega | assumption | exact ko0 | exact ko1 | exact ko2 | exact ko3 | exact ko4 | exact ko5 | exact ko6 | (rw [kgv.1]; decide) | (rw [kgv.2.1]; decide) | (rw [kgv.2.2]; decide)) (by first | decide | omega | assumption | exact ko0 | exact ko1 | exact ko2 | exact ko3 | exact ko4 | exact ko5 | exact ko6 | (rw [kgv.1]; decide) | (rw [kgv.2.1]; decide) | (rw [kgv.2.2]; decide)) (by first | decide | omega | assumption | exact ko0 | exact ko1 | exact ko2 | exact ko3 | exact ko4 | exact ko5 | exact ko6 | (rw [kgv.1]; decide) | (rw [kgv.2.1]; decide) | (rw [kgv.2.2]; decide))) ?_)
 rintro _ w48 ⟨u49, u50, u51, u52, u53, rfl, hw48_hE, hw48_hK, hu_⟩; refine ⟨_, rfl, ?_⟩; replace hW := hW.upd (H' := [rowR 29 1 enU8 (vS A37 (gv kw3 (0)).length c38) (gv kw3 (0)), rowR 29 1 enU8 (vS A19 (gv kw1 (1)).length c20) (gv kw1 (1)), rowR 29 1 enU8 (vS A15 (gv kw1 (0)).length c16) (gv kw1 (0)), ClkR n2 n3 u52 n5 u53 (3) u49 (((((0 + 1) + 1) + 1) + 1) + 1)]) 3 rfl hu_ rfl; clear hA ac; intro ac hA
 refine st_p (vT #[vI .u64 u50, vI .i64 u51]) hA fun ac hA => st_p (vI .u64 u50) hA fun ac hA => st_p (vI .i64 u51) hA fun ac hA => st_p (vI .u64 u50) hA fun ac hA => st_p (vI .i64 u51) hA fun ac hA => wn <| wp_seq ?_
 have q_ := hw48_hE.trans (show comeK 3 kw4 _ = _ from kc4); have q1_ := congrArg Prod.fst q_; have q2_ := congrArg (fun z_ => z_.2.1) q_; have q3_ := congrArg (fun z_ => z_.2.2) q_; dsimp only at q1_ q2_ q3_; subst q1_ q2_ q3_; clear q_
 replace hW : Ws w No [rowR 29 1 enU8 (vS A37 (gv kw3 (0)).length c38) (gv kw3 (0)), rowR 29 1 enU8 (vS A19 (gv kw1 (1)).length c20) (gv kw1 (1)), rowR 29 1 enU8 (vS A15 (gv kw1 (0)).length c16) (gv kw1 (0)), ClkR n2 n3 u52 n5 u53 (3) kw5 (((((0 + 1) + 1) + 1) + 1) + 1)] [] w48 := hW
 refine wp_region_lit <| st_p (pA n2 0) hA ?_; clear hA ac; intro ac hA
 refine st_s hA (Runs.callN (v := (⟨0, 5, ⟨0, 0⟩, 0, 0, 0, 0, 0⟩ : Event).v) (fun _ => by kernel_rfl) hW (e_of (0) (5) (0) w48) ?_); clear hA ac hW; intro w54 hW hfw54 ac hA
 refine st_s hA (Runs.call (fun _ => by kernel_rfl) (e_kcome n2 n3 u52 n5 u53 (3) kw5 (((((0 + 1) + 1) + 1) + 1) + 1) (⟨0, 5, ⟨0, 0⟩, 0, 0, 0, 0, 0⟩ : Event) w54 ((hW).get 3 rfl) ((hW).lt _ (List.mem_of_getElem? (i := 3) rfl)) (by first | decide | omega | assumption | exact ko0 | exact ko1 | exact ko2 | exact ko3 | exact ko4 | exact ko5 | exact ko6 | (rw [kgv.1]; decide) | (rw [kgv.2.1]; decide) | (rw [kgv.2.2]; decide)) (by first | decide | omega | assumption | exact ko0 | exact ko1 | exact ko2 | exact ko3 | exact ko4 | exact ko5 | exact ko6 | (rw [kgv.1]; decide) | (rw [kgv.2.1]; decide) | (rw [kgv.2.2]; decide)) (by first | decide | omega | assumption | exact ko0 | exact ko1 | exact ko2 | exact ko3 | exact ko4 | exact ko5 | exact ko6 | (rw [kgv.1]; decide) | (rw [kgv.2.1]; decide) | (rw [kgv.2.2]; decide)) (by first | decide | omega | assumption | exact ko0 | exact ko1 | exact ko2 | exact ko3 | exact ko4 | exact ko5 | exact ko6 | (rw [kgv.1]; decide) | (rw [kgv.2.1]; decide) | (rw [kgv.2.2]; decide)) (by first | decide | omega | assumption | exact ko0 | exact ko1 | exact ko2 | exact ko3 | exact ko4 | exact ko5 | exact ko6 | (rw [kgv.1]; decide) | (rw [kgv.2.1]; decide) | (rw [kgv.2.2]; decide))) ?_)
 rintro _ w55 ⟨u56, u57, u58, u59, u60, rfl, hw55_hE, hw55_hK, hu_⟩; refine ⟨_, rfl, ?_⟩; replace hW := hW.upd (H' := [rowR 29 1 enU8 (vS A37 (gv kw3 (0)).length c38) (gv kw3 (0)), rowR 29 1 enU8 (vS A19 (gv kw1 (1)).length c20) (gv kw1 (1)), rowR 29 1 enU8 (vS A15 (gv kw1 (0)).length c16) (gv kw1 (0)), ClkR n2 n3 u59 n5 u60 (3) u56 ((((((0 + 1) + 1) + 1) + 1) + 1) + 1)]) 3 rfl hu_ rfl; clear hA ac; intro ac hA
 refine st_p (vT #[vI .u64 u57, vI .i64 u58]) hA fun ac hA => st_p (vI .u64 u57) hA fun ac hA => st_p (vI .i64 u58) hA fun ac hA => st_p (vI .u64 u57) hA fun ac hA => st_p (vI .i64 u58) hA fun ac hA => wn <| wp_seq ?_
 have q_ := hw55_hE.trans (show comeK 3 kw5 _ = _ from kc5); have q1_ := congrArg Prod.fst q_; have q2_ := congrArg (fun z_ => z_.2.1) q_; have q3_ := congrArg (fun z_ => z_.2.2) q_; dsimp only at q1_ q2_ q3_; subst q1_ q2_ q3_; clear q_
 replace hW : Ws w No [rowR 29 1 enU8 (vS A37 (gv kw3 (0)).length c38) (gv kw3 (0)), rowR 29 1 enU8 (vS A19 (gv kw1 (1)).length c20) (gv kw1 (1)), rowR 29 1 enU8 (vS A15 (gv kw1 (0)).length c16) (gv kw1 (0)), ClkR n2 n3 u59 n5 u60 (3) kw6 ((((((0 + 1) + 1) + 1) + 1) + 1) + 1)] [] w55 := hW
 refine wp_region_lit <| st_p (pA n2 0) hA ?_; clear hA ac; intro ac hA
 refine st_s hA (Runs.callN (v := (⟨2, 2, ⟨0, 0⟩, 0, 0, 0, 0, 0⟩ : Event).v) (fun _ => by kernel_rfl) hW (e_of (2) (2) (0) w55) ?_); clear hA ac hW; intro w61 hW hfw61 ac hA
 refine st_s hA (Runs.call (fun _ => by kernel_rfl) (e_kcome n2 n3 u59 n5 u60 (3) kw6 ((((((0 + 1) + 1) + 1) + 1) + 1) + 1) (⟨2, 2, ⟨0, 0⟩, 0, 0, 0, 0, 0⟩ : Event) w61 ((hW).get 3 rfl) ((hW).lt _ (List.mem_of_getElem? (i := 3) rfl)) (by first | decide | omega | assumption | exact ko0 | exact ko1 | exact ko2 | exact ko3 | exact ko4 | exact ko5 | exact ko6 | (rw [kgv.1]; decide) | (rw [kgv.2.1]; decide) | (rw [kgv.2.2]; decide)) (by first | decide | omega | assumption | exact ko0 | exact ko1 | exact ko2 | exact ko3 | exact ko4 | exact ko5 | exact ko6 | (rw [kgv.1]; decide) | (rw [kgv.2.1]; decide) | (rw [kgv.2.2]; decide)) (by first | decide | omega | assumption | exact ko0 | exact ko1 | exact ko2 | exact ko3 | exact ko4 | exact ko5 | exact ko6 | (rw [kgv.1]; decide) | (rw [kgv.2.1]; decide) | (rw [kgv.2.2]; decide)) (by first | decide | omega | assumption | exact ko0 | exact ko1 | exact ko2 | exact ko3 | exact ko4 | exact ko5 | exact ko6 | (rw [kgv.1]; decide) | (rw [kgv.2.1]; decide) | (rw [kgv.2.2]; decide)) (by first | decide | omega | assumption | exact ko0 | exact ko1 | exact ko2 | exact ko3 | exact ko4 | exact ko5 | exact ko6 | (rw [kgv.1]; decide) | (rw [kgv.2.1]; decide) | (rw [kgv.2.2]; decide))) ?_)
 rintro _ w62 ⟨u63, u64, u65, u66, u67, rfl, hw62_hE, hw62_hK, hu_⟩; refine ⟨_, rfl, ?_⟩; replace hW := hW.upd (H' := [rowR 29 1 enU8 (vS A37 (gv kw3 (0)).length c38) (gv kw3 (0)), rowR 29 1 enU8 (vS A19 (gv kw1 (1)).length c20) (gv kw1 (1)), rowR 29 1 enU8 (vS A15 (gv kw1 (0)).length c16) (gv kw1 (0)), ClkR n2 n3 u66 n5 u67 (3) u63 (((((((0 + 1) + 1) + 1) + 1) + 1) + 1) + 1)]) 3 rfl hu_ rfl; clear hA ac; intro ac hA
 refine st_p (vT #[vI .u64 u64, vI .i64 u65]) hA fun ac hA => st_p (vI .u64 u64) hA fun ac hA => st_p (vI .i64 u65) hA fun ac hA => st_p (vI .u64 u64) hA fun ac hA => st_p (vI .i64 u65) hA fun ac hA => wn <| wp_seq ?_
 have q_ := hw62_hE.trans (show comeK 3 kw6 _ = _ from kc6); have q1_ := congrArg Prod.fst q_; have q2_ := congrArg (fun z_ => z_.2.1) q_; have q3_ := congrArg (fun z_ => z_.2.2) q_; dsimp only at q1_ q2_ q3_; subst q1_ q2_ q3_; clear q_
 replace hW : Ws w No [rowR 29 1 enU8 (vS A37 (gv kw3 (0)).length c38) (gv kw3 (0)), rowR 29 1 enU8 (vS A19 (gv kw1 (1)).length c20) (gv kw1 (1)), rowR 29 1 enU8 (vS A15 (gv kw1 (0)).length c16) (gv kw1 (0)), ClkR n2 n3 u66 n5 u67 (3) kw7 (((((((0 + 1) + 1) + 1) + 1) + 1) + 1) + 1)] [] w62 := hW
 refine wp_region_lit <| st_p (vI .i64 0) hA ?_; clear hA ac; intro ac hA
 refine st_s hA (Runs.callN (v := vI .i64 (0)) (fun _ => by kernel_rfl) hW (e_num (0) w62) ?_); clear hA ac hW; intro w68 hW hfw68 ac hA
 refine st_p (vI .i64 0) hA ?_; clear hA ac; intro ac hA
 refine st_s hA (Runs.callN (v := vI .i64 (0)) (fun _ => by kernel_rfl) hW (e_num (0) w68) ?_); clear hA ac hW; intro w69 hW hfw69 ac hA
 refine st_q (vI .i64 (((0) : Int) + (0))) hA hW.cls (Rd.pureE (v0 := vI .i64 (IntKind.i64.wrap (((0) : Int) + (0)))) (fun _ => by kernel_rfl) (congrArg (vI .i64) ((w_i64 (x := ((0) : Int) + (0)) (by omega) (by omega)).trans (by omega)))) fun ac hA => st_p (vI .i64 0) hA fun ac hA => st_s hA (Runs.callN (v := vI .i64 (0)) (fun _ => by kernel_rfl) hW (e_num (0) w69) ?_); clear hA ac hW; intro w70 hW hfw70 ac hA
 refine st_q (vI .i64 ((((0) : Int) + (0) : Int) + (0))) hA hW.cls (Rd.pureE (v0 := vI .i64 (IntKind.i64.wrap ((((0) : Int) + (0) : Int) + (0)))) (fun _ => by kernel_rfl) (congrArg (vI .i64) ((w_i64 (x := (((0) : Int) + (0) : Int) + (0)) (by omega) (by omega)).trans (by omega)))) fun ac hA => st_p (vI .i64 0) hA fun ac hA => st_s hA (Runs.callN (v := vI .i64 (0)) (fun _ => by kernel_rfl) hW (e_num (0) w70) ?_); clear hA ac hW; intro w71 hW hfw71 ac hA
 refine st_q (vI .i64 (((((0) : Int) + (0) : Int) + (0) : Int) + (0))) hA hW.cls (Rd.pureE (v0 := vI .i64 (IntKind.i64.wrap (((((0) : Int) + (0) : Int) + (0) : Int) + (0)))) (fun _ => by kernel_rfl) (congrArg (vI .i64) ((w_i64 (x := ((((0) : Int) + (0) : Int) + (0) : Int) + (0)) (by omega) (by omega)).trans (by omega)))) fun ac hA => st_p (vI .i64 0) hA fun ac hA => st_s hA (Runs.callN (v := vI .i64 (0)) (fun _ => by kernel_rfl) hW (e_num (0) w71) ?_); clear hA ac hW; intro w72 hW hfw72 ac hA
 refine st_q (vI .i64 ((((((0) : Int) + (0) : Int) + (0) : Int) + (0) : Int) + (0))) hA hW.cls (Rd.pureE (v0 := vI .i64 (IntKind.i64.wrap ((((((0) : Int) + (0) : Int) + (0) : Int) + (0) : Int) + (0)))) (fun _ => by kernel_rfl) (congrArg (vI .i64) ((w_i64 (x := (((((0) : Int) + (0) : Int) + (0) : Int) + (0) : Int) + (0)) (by omega) (by omega)).trans (by omega)))) fun ac hA => st_p (vI .i64 0) hA fun ac hA => st_s hA (Runs.callN (v := vI .i64 (0)) (fun _ => by kernel_rfl) hW (e_num (0) w72) ?_); clear hA ac hW; intro w73 hW hfw73 ac hA
 refine st_q (vI .i64 (((((((0) : Int) + (0) : Int) + (0) : Int) + (0) : Int) + (0) : Int) + (0))) hA hW.cls (Rd.pureE (v0 := vI .i64 (IntKind.i64.wrap (((((((0) : Int) + (0) : Int) + (0) : Int) + (0) : Int) + (0) : Int) + (0)))) (fun _ => by kernel_rfl) (congrArg (vI .i64) ((w_i64 (x := ((((((0) : Int) + (0) : Int) + (0) : Int) + (0) : Int) + (0) : Int) + (0)) (by omega) (by omega)).trans (by omega)))) fun ac hA => st_p (vB ((((((((0) : Int) + (0) : Int) + (0) : Int) + (0) : Int) + (0) : Int) + (0) : Int) == (0 : Int))) hA fun ac hA => st_p (vB ((((((((0) : Int) + (0) : Int) + (0) : Int) + (0) : Int) + (0) : Int) + (0) : Int) == (0 : Int))) hA fun ac hA => ?_
 rcases Bool.eq_false_or_eq_true ((((((((0) : Int) + (0) : Int) + (0) : Int) + (0) : Int) + (0) : Int) + (0) : Int) == (0 : Int)) with h74 | h74
 ·
  rw [h74] at hA
  have h74 := eq_of_beq h74
  refine st_p (vI .u64 1) hA ?_; clear hA ac; intro ac hA
  refine st_s hA (Runs.callN (v := vI .u64 (packV (0) (1))) (fun _ => by kernel_rfl) hW (e_at (0) (1) w73 (by first | decide | omega | assumption | exact ko0 | exact ko1 | exact ko2 | exact ko3 | exact ko4 | exact ko5 | exact ko6 | (rw [kgv.1]; decide) | (rw [kgv.2.1]; decide) | (rw [kgv.2.2]; decide)) (by first | decide | omega | assumption | exact ko0 | exact ko1 | exact ko2 | exact ko3 | exact ko4 | exact ko5 | exact ko6 | (rw [kgv.1]; decide) | (rw [kgv.2.1]; decide) | (rw [kgv.2.2]; decide))) ?_); clear hA ac hW; intro w75 hW hfw75 ac hA
  refine st_p (vB ((1 : Int) == (packV (0) (1) : Int))) hA fun ac hA => st_p (vB ((1 : Int) == (packV (0) (1) : Int))) hA fun ac hA => st_p (vB ((1 : Int) == (packV (0) (1) : Int))) hA fun ac hA => ?_
  rcases Bool.eq_false_or_eq_true ((1 : Int) == (packV (0) (1) : Int)) with h76 | h76
  ·
   rw [h76] at hA
   have h76 := eq_of_beq h76
   refine st_p (vS A15 (gv kw1 (0)).length c16) hA ?_; clear hA ac; intro ac hA
   refine st_s hA (Runs.cells (fun b => vS (some ⟨b, 0, none⟩) 1 1) #[vI .u64 2] 29 (fun _ => by kernel_rfl) hW ?_); clear hA ac hW; intro b77 w78 hW hb77 hfw78 ac hA
   refine st_s hA (Runs.callN (v := vB (decide (gv kw1 (0) = ([2] : List Int)))) (fun _ => by kernel_rfl) hW (e_r4equal A15 c16 (gv kw1 (0)) (some ⟨b77, 0, none⟩) 1 ([2] : List Int) w78 (rowR_at ((hW).get 3 rfl) elt_U8.len) (own_cap ((hW).get 3 rfl)) (rowAt_cel ((hW).cel 0 rfl) ([2] : List Int) (by rfl) elt_U8.len) (by first | assumption | omega | (simp; omega) | simp) (by first | decide | omega | assumption | exact ko0 | exact ko1 | exact ko2 | exact ko3 | exact ko4 | exact ko5 | exact ko6 | (rw [kgv.1]; decide) | (rw [kgv.2.1]; decide) | (rw [kgv.2.2]; decide)) (by first | decide | omega | assumption | exact ko0 | exact ko1 | exact ko2 | exact ko3 | exact ko4 | exact ko5 | exact ko6 | (rw [kgv.1]; decide) | (rw [kgv.2.1]; decide) | (rw [kgv.2.2]; decide))) ?_); clear hA ac hW; intro w79 hW hfw79 ac hA
   refine st_p (vB (decide (gv kw1 (0) = ([2] : List Int)))) hA fun ac hA => st_p (vB (decide (gv kw1 (0) = ([2] : List Int)))) hA fun ac hA => ?_
   rcases Bool.eq_false_or_eq_true (decide (gv kw1 (0) = ([2] : List Int))) with h80 | h80
   ·
    rw [h80] at hA
    refine st_p (vS A19 (gv kw1 (1)).length c20) hA ?_; clear hA ac; intro ac hA
    refine st_s hA (Runs.cells (fun b => vS (some ⟨b, 0, none⟩) 2 2) #[vI .u64 1, vI .u64 1] 29 (fun _ => by kernel_rfl) hW ?_); clear hA ac hW; intro b81 w82 hW hb81 hfw82 ac hA
    refine st_s hA (Runs.callN (v := vB (decide (gv kw1 (1) = ([1, 1] : List Int)))) (fun _ => by kernel_rfl) hW (e_r4equal A19 c20 (gv kw1 (1)) (some ⟨b81, 0, none⟩) 2 ([1, 1] : List Int) w82 (rowR_at ((hW).get 3 rfl) elt_U8.len) (own_cap ((hW).get 3 rfl)) (rowAt_cel ((hW).cel 0 rfl) ([1, 1] : List Int) (by rfl) elt_U8.len) (by first | assumption | omega | (simp; omega) | simp) (by first | decide | omega | assumption | exact ko0 | exact ko1 | exact ko2 | exact ko3 | exact ko4 | exact ko5 | exact ko6 | (rw [kgv.1]; decide) | (rw [kgv.2.1]; decide) | (rw [kgv.2.2]; decide)) (by first | decide | omega | assumption | exact ko0 | exact ko1 | exact ko2 | exact ko3 | exact ko4 | exact ko5 | exact ko6 | (rw [kgv.1]; decide) | (rw [kgv.2.1]; decide) | (rw [kgv.2.2]; decide))) ?_); clear hA ac hW; intro w83 hW hfw83 ac hA
    refine st_p (vB (decide (gv kw1 (1) = ([1, 1] : List Int)))) hA fun ac hA => st_p (vB (decide (gv kw1 (1) = ([1, 1] : List Int)))) hA fun ac hA => ?_
    rcases Bool.eq_false_or_eq_true (decide (gv kw1 (1) = ([1, 1] : List Int))) with h84 | h84
    ·
     rw [h84] at hA
     refine st_p (vI .u64 281474976710657) hA ?_; clear hA ac; intro ac hA
     refine st_s hA (Runs.callN (v := vI .u64 (packV (1) (1))) (fun _ => by kernel_rfl) hW (e_at (1) (1) w83 (by first | decide | omega | assumption | exact ko0 | exact ko1 | exact ko2 | exact ko3 | exact ko4 | exact ko5 | exact ko6 | (rw [kgv.1]; decide) | (rw [kgv.2.1]; decide) | (rw [kgv.2.2]; decide)) (by first | decide | omega | assumption | exact ko0 | exact ko1 | exact ko2 | exact ko3 | exact ko4 | exact ko5 | exact ko6 | (rw [kgv.1]; decide) | (rw [kgv.2.1]; decide) | (rw [kgv.2.2]; decide))) ?_); clear hA ac hW; intro w85 hW hfw85 ac hA
     refine st_p (vB ((281474976710657 : Int) == (packV (1) (1) : Int))) hA fun ac hA => st_p (vB ((281474976710657 : Int) == (packV (1) (1) : Int))) hA fun ac hA => st_p (vB ((281474976710657 : Int) == (packV (1) (1) : Int))) hA fun ac hA => ?_
     rcases Bool.eq_false_or_eq_true ((281474976710657 : Int) == (packV (1) (1) : Int)) with h86 | h86
     ·
      rw [h86] at hA
      have h86 := eq_of_beq h86
      refine st_p (vI .u64 2) hA ?_; clear hA ac; intro ac hA
      refine st_s hA (Runs.callN (v := vI .u64 (packV (0) (2))) (fun _ => by kernel_rfl) hW (e_at (0) (2) w85 (by first | decide | omega | assumption | exact ko0 | exact ko1 | exact ko2 | exact ko3 | exact ko4 | exact ko5 | exact ko6 | (rw [kgv.1]; decide) | (rw [kgv.2.1]; decide) | (rw [kgv.2.2]; decide)) (by first | decide | omega | assumption | exact ko0 | exact ko1 | exact ko2 | exact ko3 | exact ko4 | exact ko5 | exact ko6 | (rw [kgv.1]; decide) | (rw [kgv.2.1]; decide) | (rw [kgv.2.2]; decide))) ?_); clear hA ac hW; intro w87 hW hfw87 ac hA
      refine st_p (vB ((2 : Int) == (packV (0) (2) : Int))) hA fun ac hA => st_p (vB ((2 : Int) == (packV (0) (2) : Int))) hA fun ac hA => st_p (vB ((2 : Int) == (packV (0) (2) : Int))) hA fun ac hA => ?_
      rcases Bool.eq_false_or_eq_true ((2 : Int) == (packV (0) (2) : Int)) with h88 | h88
      ·
       rw [h88] at hA
       have h88 := eq_of_beq h88
       refine st_p (vS A37 (gv kw3 (0)).length c38) hA ?_; clear hA ac; intro ac hA
       refine st_s hA (Runs.cells (fun b => vS (some ⟨b, 0, none⟩) 2 2) #[vI .u64 2, vI .u64 1] 29 (fun _ => by kernel_rfl) hW ?_); clear hA ac hW; intro b89 w90 hW hb89 hfw90 ac hA
       refine st_s hA (Runs.callN (v := vB (decide (gv kw3 (0) = ([2, 1] : List Int)))) (fun _ => by kernel_rfl) hW (e_r4equal A37 c38 (gv kw3 (0)) (some ⟨b89, 0, none⟩) 2 ([2, 1] : List Int) w90 (rowR_at ((hW).get 3 rfl) elt_U8.len) (own_cap ((hW).get 3 rfl)) (rowAt_cel ((hW).cel 0 rfl) ([2, 1] : List Int) (by rfl) elt_U8.len) (by first | assumption | omega | (simp; omega) | simp) (by first | decide | omega | assumption | exact ko0 | exact ko1 | exact ko2 | exact ko3 | exact ko4 | exact ko5 | exact ko6 | (rw [kgv.1]; decide) | (rw [kgv.2.1]; decide) | (rw [kgv.2.2]; decide)) (by first | decide | omega | assumption | exact ko0 | exact ko1 | exact ko2 | exact ko3 | exact ko4 | exact ko5 | exact ko6 | (rw [kgv.1]; decide) | (rw [kgv.2.1]; decide) | (rw [kgv.2.2]; decide))) ?_); clear hA ac hW; intro w91 hW hfw91 ac hA
       refine st_p (vB (decide (gv kw3 (0) = ([2, 1] : List Int)))) hA fun ac hA => st_p (vB (decide (gv kw3 (0) = ([2, 1] : List Int)))) hA fun ac hA => ?_
       rcases Bool.eq_false_or_eq_true (decide (gv kw3 (0) = ([2, 1] : List Int))) with h92 | h92
       ·
        rw [h92] at hA
        refine st_p (vI .u64 2) hA ?_; clear hA ac; intro ac hA
        refine st_s hA (Runs.callN (v := vI .u64 (packV (0) (2))) (fun _ => by kernel_rfl) hW (e_at (0) (2) w91 (by first | decide | omega | assumption | exact ko0 | exact ko1 | exact ko2 | exact ko3 | exact ko4 | exact ko5 | exact ko6 | (rw [kgv.1]; decide) | (rw [kgv.2.1]; decide) | (rw [kgv.2.2]; decide)) (by first | decide | omega | assumption | exact ko0 | exact ko1 | exact ko2 | exact ko3 | exact ko4 | exact ko5 | exact ko6 | (rw [kgv.1]; decide) | (rw [kgv.2.1]; decide) | (rw [kgv.2.2]; decide))) ?_); clear hA ac hW; intro w93 hW hfw93 ac hA
        refine st_p (vB ((2 : Int) == (packV (0) (2) : Int))) hA fun ac hA => st_p (vB ((2 : Int) == (packV (0) (2) : Int))) hA fun ac hA => st_p (vB ((2 : Int) == (packV (0) (2) : Int))) hA fun ac hA => ?_
        rcases Bool.eq_false_or_eq_true ((2 : Int) == (packV (0) (2) : Int)) with h94 | h94
        ·
         rw [h94] at hA
         have h94 := eq_of_beq h94
         refine st_p (vI .i64 130) hA ?_; clear hA ac; intro ac hA
         refine st_s hA (Runs.callN (v := vI .i64 (130)) (fun _ => by kernel_rfl) hW (e_num (130) w93) ?_); clear hA ac hW; intro w95 hW hfw95 ac hA
         refine st_p (vB (((130) : Int) == (130 : Int))) hA fun ac hA => st_p (vB (((130) : Int) == (130 : Int))) hA fun ac hA => st_p (vB (((130) : Int) == (130 : Int))) hA fun ac hA => ?_
         rcases Bool.eq_false_or_eq_true (((130) : Int) == (130 : Int)) with h96 | h96
         ·
          rw [h96] at hA
          have h96 := eq_of_beq h96
          refine st_p (vI .u64 3) hA ?_; clear hA ac; intro ac hA
          refine st_s hA (Runs.callN (v := vI .u64 (packV (0) (3))) (fun _ => by kernel_rfl) hW (e_at (0) (3) w95 (by first | decide | omega | assumption | exact ko0 | exact ko1 | exact ko2 | exact ko3 | exact ko4 | exact ko5 | exact ko6 | (rw [kgv.1]; decide) | (rw [kgv.2.1]; decide) | (rw [kgv.2.2]; decide)) (by first | decide | omega | assumption | exact ko0 | exact ko1 | exact ko2 | exact ko3 | exact ko4 | exact ko5 | exact ko6 | (rw [kgv.1]; decide) | (rw [kgv.2.1]; decide) | (rw [kgv.2.2]; decide))) ?_); clear hA ac hW; intro w97 hW hfw97 ac hA
          refine st_p (vB ((3 : Int) == (packV (0) (3) : Int))) hA fun ac hA => st_p (vB ((3 : Int) == (packV (0) (3) : Int))) hA fun ac hA => st_p (vB ((3 : Int) == (packV (0) (3) : Int))) hA fun ac hA => ?_
          rcases Bool.eq_false_or_eq_true ((3 : Int) == (packV (0) (3) : Int)) with h98 | h98
          ·
           rw [h98] at hA
           have h98 := eq_of_beq h98
           refine st_p (vI .i64 4) hA ?_; clear hA ac; intro ac hA
           refine st_s hA (Runs.callN (v := vI .i64 (4)) (fun _ => by kernel_rfl) hW (e_num (4) w97) ?_); clear hA ac hW; intro w99 hW hfw99 ac hA
           refine st_p (vB (((4) : Int) == (4 : Int))) hA fun ac hA => st_p (vB (((4) : Int) == (4 : Int))) hA fun ac hA => st_p (vB (((4) : Int) == (4 : Int))) hA fun ac hA => wn <| wp_ret <| r1 (vB (((4) : Int) == (4 : Int))) hA ?_
           clear hA
           exact ⟨retv (by rfl), hW.fr⟩
          rw [h98] at hA
          have h98 := ne_of_beq_false h98
          exfalso; clear hA hW; exact absurd (by first | decide | exact kgv.1 | exact kgv.2.1 | exact kgv.2.2) h98
         rw [h96] at hA
         have h96 := ne_of_beq_false h96
         exfalso; clear hA hW; omega
        rw [h94] at hA
        have h94 := ne_of_beq_false h94
        exfalso; clear hA hW; omega
       rw [h92] at hA
       exfalso; clear hA hW; exact absurd (by first | decide | exact kgv.1 | exact kgv.2.1 | exact kgv.2.2) (of_decide_eq_false h92)
      rw [h88] at hA
      have h88 := ne_of_beq_false h88
      exfalso; clear hA hW; exact absurd (by first | decide | exact kgv.1 | exact kgv.2.1 | exact kgv.2.2) h88
     rw [h86] at hA
     have h86 := ne_of_beq_false h86
     exfalso; clear hA hW; exact absurd (by first | decide | exact kgv.1 | exact kgv.2.1 | exact kgv.2.2) h86
    rw [h84] at hA
    exfalso; clear hA hW; exact absurd (by first | decide | exact kgv.1 | exact kgv.2.1 | exact kgv.2.2) (of_decide_eq_false h84)
   rw [h80] at hA
   exfalso; clear hA hW; exact absurd (by first | decide | exact kgv.1 | exact kgv.2.1 | exact kgv.2.2) (of_decide_eq_false h80)
  rw [h76] at hA
  have h76 := ne_of_beq_false h76
  exfalso; clear hA hW; exact absurd (by first | decide | exact kgv.1 | exact kgv.2.1 | exact kgv.2.2) h76
 rw [h74] at hA
 have h74 := ne_of_beq_false h74
 exfalso; clear hA hW; omega

end Go.Proofs.YtjegpelofdopmaaGreatDoor.L
