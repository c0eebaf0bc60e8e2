/- Contracts, walked by program over the engine's laws. -/
import Derived.Test.YtfkbjfbbigbacaaGreatDoorProg
import Derived.Test.YtfkbjfbbigbacaaGreatDoorT23
namespace Go.Proofs.YtfkbjfbbigbacaaGreatDoor.L
open Go.RowKit
open Go.Value renaming int → vI, slice → vS, bool → vB, pointer → vP, func → vF, agg → vA, map → vM, tuple → vT

set_option maxRecDepth 100000 in
theorem e_raceNone (j : Int) (zero : Bool) (w : World) (hj : -9223372036854775808 ≤ j ∧ j ≤ 9223372036854775807) : Calls Tryz.prog 6 #[vI .i64 j, vB zero] w (fun e w' => e = .returned (vB true) ∧ Fr No w w') := by
 have _hu := hj; clear _hu
 refine enter_F 59 Tryz.func6 rfl rfl (by kernel_rfl) (L := [(0, vI .i64 j), (1, vB zero)]) (by kernel_rfl) ?_
 intro ac hA
 have hW := Ws.start w No
 refine wpIn_seq <| wpIn_region_lit <| stF hA (by kernel_rfl) (by kernel_rfl) (by kernel_rfl) (by kernel_rfl) (RunsF.of (Runs.cells (fun b => pA b 0) #[vB false] 4 (fun _ => by kernel_rfl) hW ?_)); clear hA ac hW; intro b1 w2 hW hb1 hfw2 ac hA
 refine wpListIn_nil <| thenN <| wpIn_seq <| wpIn_region_lit <| st_rdF (v := vP none) hA (by kernel_rfl) (by kernel_rfl) (by kernel_rfl) (by kernel_rfl) hW.cls (Rd.pure fun _ => by kernel_rfl) ?_; clear hA ac; intro ac hA
 refine wpListIn_nil <| thenN <| wpIn_seq <| wpIn_seq <| wpIn_region_lit <| st_rdF (v := vB zero) hA (by kernel_rfl) (by kernel_rfl) (by kernel_rfl) (by kernel_rfl) hW.cls (Rd.pure fun _ => by kernel_rfl) ?_; clear hA ac; intro ac hA
 refine wpListIn_nil <| thenN <| wpIn_cond_split (t := zero) (hA.eval (by kernel_rfl)) (fun h3 => ?_) (fun h3 => ?_)
 ·
  first
  | (exfalso; clear hA hW; omega)
  | (exfalso; clear hA hW; exact h3 rfl; done)
  | (
   refine wpIn_region_lit <| st_rdF (v := vA #[vS none 0 0, vS none 0 0, vM none, vM none]) hA (by kernel_rfl) (by kernel_rfl) (by kernel_rfl) (by kernel_rfl) hW.cls (Rd.pure fun _ => by kernel_rfl) ?_; clear hA ac; intro ac hA
   refine stF hA (by kernel_rfl) (by kernel_rfl) (by kernel_rfl) (by kernel_rfl) (RunsF.of (Runs.cells (fun b => pA b 0) #[vS none 0 0, vS none 0 0, vM none, vM none] 64 (fun _ => by kernel_rfl) hW ?_)); clear hA ac hW; intro b4 w5 hW hb4 hfw5 ac hA
   refine st_rdF (v := pA b4 0) hA (by kernel_rfl) (by kernel_rfl) (by kernel_rfl) (by kernel_rfl) hW.cls (Rd.pure fun _ => by kernel_rfl) ?_; clear hA ac; intro ac hA
   refine wpListIn_nil <| thenN <| wpIn_seq <| wpIn_region_lit <| st_rdF (v := pA b4 0) hA (by kernel_rfl) (by kernel_rfl) (by kernel_rfl) (by kernel_rfl) hW.cls (Rd.pure fun _ => by kernel_rfl) ?_; clear hA ac; intro ac hA
   refine stF hA (by kernel_rfl) (by kernel_rfl) (by kernel_rfl) (by kernel_rfl) (RunsF.of (Runs.call (fun _ => by kernel_rfl) (e_rAll_z b4 w5 ((hW).cel 0 rfl)) ?_))
   rintro _ w6 ⟨lb7, g8, rfl, hIg8, hfg8, hfw6⟩; refine ⟨_, rfl, ?_⟩; have hW0 := hW; have hW := hW0.call hfw6; have hW := hW0.addFromAt hW hfg8 in_nil; clear hW0 hA ac; intro ac hA
   refine st_rdF (v := vF (.func 36) #[] lb7) hA (by kernel_rfl) (by kernel_rfl) (by kernel_rfl) (by kernel_rfl) hW.cls (Rd.pure fun _ => by kernel_rfl) ?_; clear hA ac; intro ac hA
   refine wpListIn_nil <| thenN <| wpIn_seq <| wpIn_seq <| wpIn_region_lit <| st_rdF (v := vF (.func 36) #[] lb7) hA (by kernel_rfl) (by kernel_rfl) (by kernel_rfl) (by kernel_rfl) hW.cls (Rd.pure fun _ => by kernel_rfl) ?_; clear hA ac; intro ac hA
   refine st_rdF (v := vB false) hA (by kernel_rfl) (by kernel_rfl) (by kernel_rfl) (by kernel_rfl) hW.cls (Rd.pure fun _ => by kernel_rfl) ?_; clear hA ac; intro ac hA
   refine wpListIn_nil <| thenN <| wpIn_cond_false (hA.eval (by kernel_rfl)) <| wpIn_skip <| thenN <| wpIn_seq <| wpIn_seq <| wpIn_region_lit <| st_rdF (v := vF (.func 36) #[] lb7) hA (by kernel_rfl) (by kernel_rfl) (by kernel_rfl) (by kernel_rfl) hW.cls (Rd.pure fun _ => by kernel_rfl) ?_; clear hA ac; intro ac hA
   refine wpListIn_nil <| thenN <| wpIn_block <| wp_range (encs := (fun x_ : Race × Nat => #[vI .i64 ((x_.2 : Nat) : Int), x_.1.v])) (Sx := (· = ([] : List Race).zipIdx)) hA (by kernel_rfl) (by kernel_rfl) (enters_of Tryz.func36 (by kernel_rfl) rfl) (by kernel_rfl) (fun _ => rfl) hIg8 (List.forall_mem_singleton.2 (List.mem_of_getElem? (i := 0) rfl)) (fun pre_ H_ => ∃ k : Nat, pre_ = ([] : List Race).zipIdx.take k ∧ k ≤ ([] : List Race).length ∧ H_ = []) (fun _ _ _ => False) (H := []) (K := [Cel b4 #[vS none 0 0, vS none 0 0, vM none, vM none] 64, Cel b1 #[vB false] 4]) (hW.pick [0, 1] (by decide) rfl) ⟨0, rfl, Nat.zero_le _, rfl⟩ ?_ ?_ ?_
   ·
    clear hA ac hW; intro l_9 rd_9 bs_9 pre_ x_ Hk_ w10 T_9 ac hrd_9 hbs_9 hbr_9 hok_ hJ_ hA hW hB_9 hT_9
    obtain ⟨k, rfl, hk_, rfl⟩ := hJ_
    obtain ⟨y11, rfl, hy11, hlty11, hsny11⟩ := comes_zip hok_ hk_
    replace hA : Fm 59 [] [(0, vI .i64 j), (1, vB zero), (4, pA b1 0), (5, pA b4 0), (6, vF (.func 36) #[] lb7), (10, vB zero), (11, vA #[vS none 0 0, vS none 0 0, vM none, vM none]), (12, pA b4 0), (13, pA b4 0), (14, vF (.func 36) #[] lb7), (15, vF (.func 36) #[] lb7), (16, vB false), (17, vF (.func 36) #[] lb7), (18, vI .i64 (k : Int)), (19, y11.v)] ac := hA.sub (by and_intros <;> first | kernel_rfl | trivial)
    simp at hy11
   ·
    clear hA ac hW; intro D12 xs_ Hk_ w13 ac hS_ hJ_ hA hW
    obtain ⟨k, hpre_, hk_, rfl⟩ := hJ_
    have hke : k = ([] : List Race).length := by have h_ : k ≤ 0 := hk_; show k = 0; omega
    clear hpre_ hS_
    replace hW : Ws w No [DefR D12, Cel b4 #[vS none 0 0, vS none 0 0, vM none, vM none] 64, Cel b1 #[vB false] 4] [g8] w13 := hW
    refine blkN <| thenN <| wpIn_seq <| wpIn_region_lit <| st_rdF (v := pA b4 0) hA (by kernel_rfl) (by kernel_rfl) (by kernel_rfl) (by kernel_rfl) hW.cls (Rd.pure fun _ => by kernel_rfl) ?_; clear hA ac; intro ac hA
    refine stF hA (by kernel_rfl) (by kernel_rfl) (by kernel_rfl) (by kernel_rfl) (RunsF.of (Runs.callN (v := vT #[(⟨0, 0, 0, ⟨⟨0, 0⟩, ⟨0, 0⟩⟩⟩ : Race).v, vI .i64 1]) (fun _ => by kernel_rfl) hW (e_rFirst_z b4 w13 ((hW).cel 1 rfl)) ?_)); clear hA ac hW; intro w14 hW hfw14 ac hA
    refine st_rdF (v := vT #[(⟨0, 0, 0, ⟨⟨0, 0⟩, ⟨0, 0⟩⟩⟩ : Race).v, vI .i64 1]) hA (by kernel_rfl) (by kernel_rfl) (by kernel_rfl) (by kernel_rfl) hW.cls (Rd.pure fun _ => by kernel_rfl) ?_; clear hA ac; intro ac hA
    refine st_rdF (v := (⟨0, 0, 0, ⟨⟨0, 0⟩, ⟨0, 0⟩⟩⟩ : Race).v) hA (by kernel_rfl) (by kernel_rfl) (by kernel_rfl) (by kernel_rfl) hW.cls (Rd.pure fun _ => by kernel_rfl) ?_; clear hA ac; intro ac hA
    refine st_rdF (v := vI .i64 1) hA (by kernel_rfl) (by kernel_rfl) (by kernel_rfl) (by kernel_rfl) hW.cls (Rd.pure fun _ => by kernel_rfl) ?_; clear hA ac; intro ac hA
    refine stF hA (by kernel_rfl) (by kernel_rfl) (by kernel_rfl) (by kernel_rfl) (RunsF.of (Runs.cells (fun b => pA b 0) #[vI .i64 0, vI .i64 0, vI .u32 0, vI .i64 0, vI .i64 0, vI .i64 0, vI .i64 0] 47 (fun _ => by kernel_rfl) hW ?_)); clear hA ac hW; intro b15 w16 hW hb15 hfw16 ac hA
    refine stF hA (by kernel_rfl) (by kernel_rfl) (by kernel_rfl) (by kernel_rfl) (RunsF.of (Runs.store (v := (⟨0, 0, 0, ⟨⟨0, 0⟩, ⟨0, 0⟩⟩⟩ : Race).v) (b := b15) (j := 0) (n := 7) (cs' := #[vI .i64 (⟨0, 0, 0, ⟨⟨0, 0⟩, ⟨0, 0⟩⟩⟩ : Race).i, vI .i64 (⟨0, 0, 0, ⟨⟨0, 0⟩, ⟨0, 0⟩⟩⟩ : Race).j, vI .u32 (⟨0, 0, 0, ⟨⟨0, 0⟩, ⟨0, 0⟩⟩⟩ : Race).addr, vI .i64 (⟨0, 0, 0, ⟨⟨0, 0⟩, ⟨0, 0⟩⟩⟩ : Race).p.a.f, vI .i64 (⟨0, 0, 0, ⟨⟨0, 0⟩, ⟨0, 0⟩⟩⟩ : Race).p.a.pc, vI .i64 (⟨0, 0, 0, ⟨⟨0, 0⟩, ⟨0, 0⟩⟩⟩ : Race).p.b.f, vI .i64 (⟨0, 0, 0, ⟨⟨0, 0⟩, ⟨0, 0⟩⟩⟩ : Race).p.b.pc]) (H' := [Cel b15 #[vI .i64 (⟨0, 0, 0, ⟨⟨0, 0⟩, ⟨0, 0⟩⟩⟩ : Race).i, vI .i64 (⟨0, 0, 0, ⟨⟨0, 0⟩, ⟨0, 0⟩⟩⟩ : Race).j, vI .u32 (⟨0, 0, 0, ⟨⟨0, 0⟩, ⟨0, 0⟩⟩⟩ : Race).addr, vI .i64 (⟨0, 0, 0, ⟨⟨0, 0⟩, ⟨0, 0⟩⟩⟩ : Race).p.a.f, vI .i64 (⟨0, 0, 0, ⟨⟨0, 0⟩, ⟨0, 0⟩⟩⟩ : Race).p.a.pc, vI .i64 (⟨0, 0, 0, ⟨⟨0, 0⟩, ⟨0, 0⟩⟩⟩ : Race).p.b.f, vI .i64 (⟨0, 0, 0, ⟨⟨0, 0⟩, ⟨0, 0⟩⟩⟩ : Race).p.b.pc] 47, DefR D12, Cel b4 #[vS none 0 0, vS none 0 0, vM none, vM none] 64, Cel b1 #[vB false] 4]) (by kernel_rfl) (by kernel_rfl) (by kernel_rfl) (by kernel_rfl) (by kernel_rfl) hW 0 (by rfl) (Nat.le_of_ble_eq_true (by kernel_rfl)) (by kernel_rfl) (by rfl) ?_)); clear hA ac hW; intro w17 hW ac hA
    refine st_rdF (v := vI .i64 1) hA (by kernel_rfl) (by kernel_rfl) (by kernel_rfl) (by kernel_rfl) hW.cls (Rd.pure fun _ => by kernel_rfl) ?_; clear hA ac; intro ac hA
    refine wpListIn_nil <| thenN <| wpIn_seq <| wpIn_region_lit <| st_rdF (v := pA b4 0) hA (by kernel_rfl) (by kernel_rfl) (by kernel_rfl) (by kernel_rfl) hW.cls (Rd.pure fun _ => by kernel_rfl) ?_; clear hA ac; intro ac hA
    refine stF hA (by kernel_rfl) (by kernel_rfl) (by kernel_rfl) (by kernel_rfl) (RunsF.of (Runs.call (fun _ => by kernel_rfl) (e_rPairs_z b4 w17 ((hW).cel 2 rfl)) ?_))
    rintro _ w18 ⟨n19, n20, rfl, hu_⟩; refine ⟨_, rfl, ?_⟩; replace hW := hW.made hu_; clear hA ac; intro ac hA
    refine st_rdF (v := pA n19 0) hA (by kernel_rfl) (by kernel_rfl) (by kernel_rfl) (by kernel_rfl) hW.cls (Rd.pure fun _ => by kernel_rfl) ?_; clear hA ac; intro ac hA
    refine wpListIn_nil <| thenN <| wpIn_seq <| wpIn_region_lit <| st_rdF (v := vI .i64 1) hA (by kernel_rfl) (by kernel_rfl) (by kernel_rfl) (by kernel_rfl) hW.cls (Rd.pure fun _ => by kernel_rfl) ?_; clear hA ac; intro ac hA
    refine stF hA (by kernel_rfl) (by kernel_rfl) (by kernel_rfl) (by kernel_rfl) (RunsF.of (Runs.callN (v := vI .i64 (1)) (fun _ => by kernel_rfl) hW (e_num (1) w18) ?_)); clear hA ac hW; intro w21 hW hfw21 ac hA
    refine st_rdF (v := vB (((1) : Int) == (1 : Int))) hA (by kernel_rfl) (by kernel_rfl) (by kernel_rfl) (by kernel_rfl) hW.cls (Rd.pure fun _ => by kernel_rfl) ?_; clear hA ac; intro ac hA
    refine st_rdF (v := vB (((1) : Int) == (1 : Int))) hA (by kernel_rfl) (by kernel_rfl) (by kernel_rfl) (by kernel_rfl) hW.cls (Rd.pure fun _ => by kernel_rfl) ?_; clear hA ac; intro ac hA
    rcases Bool.eq_false_or_eq_true (((1) : Int) == (1 : Int)) with h22 | h22
    ·
     rw [h22] at hA
     have h22 := eq_of_beq h22
     first
     | (exfalso; clear hA hW; omega)
     | (exfalso; clear hA hW; exact h22 rfl; done)
     | (
      refine st_rdF (v := pA b4 0) hA (by kernel_rfl) (by kernel_rfl) (by kernel_rfl) (by kernel_rfl) hW.cls (Rd.pure fun _ => by kernel_rfl) ?_; clear hA ac; intro ac hA
      refine st_rdF (v := vI .i64 j) hA (by kernel_rfl) (by kernel_rfl) (by kernel_rfl) (by kernel_rfl) hW.cls (Rd.pure fun _ => by kernel_rfl) ?_; clear hA ac; intro ac hA
      refine stF hA (by kernel_rfl) (by kernel_rfl) (by kernel_rfl) (by kernel_rfl) (RunsF.of (Runs.callN (v := vS none 0 0) (fun _ => by kernel_rfl) hW (e_rWith_z b4 (j) w21 ((hW).cel 3 rfl)) ?_)); clear hA ac hW; intro w23 hW hfw23 ac hA
      refine st_rdF (v := vI .i64 0) hA (by kernel_rfl) (by kernel_rfl) (by kernel_rfl) (by kernel_rfl) hW.cls (Rd.pure fun _ => by kernel_rfl) ?_; clear hA ac; intro ac hA
      refine st_rdF (v := vB true) hA (by kernel_rfl) (by kernel_rfl) (by kernel_rfl) (by kernel_rfl) hW.cls (Rd.pure fun _ => by kernel_rfl) ?_; clear hA ac; intro ac hA
      refine st_rdF (v := vB true) hA (by kernel_rfl) (by kernel_rfl) (by kernel_rfl) (by kernel_rfl) hW.cls (Rd.pure fun _ => by kernel_rfl) ?_; clear hA ac; intro ac hA
      refine st_rdF (v := vB true) hA (by kernel_rfl) (by kernel_rfl) (by kernel_rfl) (by kernel_rfl) hW.cls (Rd.pure fun _ => by kernel_rfl) ?_; clear hA ac; intro ac hA
      refine st_rdF (v := pA b4 0) hA (by kernel_rfl) (by kernel_rfl) (by kernel_rfl) (by kernel_rfl) hW.cls (Rd.pure fun _ => by kernel_rfl) ?_; clear hA ac; intro ac hA
      refine stF hA (by kernel_rfl) (by kernel_rfl) (by kernel_rfl) (by kernel_rfl) (RunsF.of (Runs.callN (v := vS none 0 0) (fun _ => by kernel_rfl) hW (e_rFirsts_z b4 w23 ((hW).cel 3 rfl)) ?_)); clear hA ac hW; intro w24 hW hfw24 ac hA
      refine st_rdF (v := vI .i64 0) hA (by kernel_rfl) (by kernel_rfl) (by kernel_rfl) (by kernel_rfl) hW.cls (Rd.pure fun _ => by kernel_rfl) ?_; clear hA ac; intro ac hA
      refine st_rdF (v := vB true) hA (by kernel_rfl) (by kernel_rfl) (by kernel_rfl) (by kernel_rfl) hW.cls (Rd.pure fun _ => by kernel_rfl) ?_; clear hA ac; intro ac hA
      refine st_rdF (v := vB true) hA (by kernel_rfl) (by kernel_rfl) (by kernel_rfl) (by kernel_rfl) hW.cls (Rd.pure fun _ => by kernel_rfl) ?_; clear hA ac; intro ac hA
      refine st_rdF (v := vB true) hA (by kernel_rfl) (by kernel_rfl) (by kernel_rfl) (by kernel_rfl) hW.cls (Rd.pure fun _ => by kernel_rfl) ?_; clear hA ac; intro ac hA
      refine st_rdF (v := pA n19 0) hA (by kernel_rfl) (by kernel_rfl) (by kernel_rfl) (by kernel_rfl) hW.cls (Rd.pure fun _ => by kernel_rfl) ?_; clear hA ac; intro ac hA
      refine st_rdF (v := vB true) hA (by kernel_rfl) (by kernel_rfl) (by kernel_rfl) (by kernel_rfl) hW.cls (Rd.pure fun _ => by kernel_rfl) ?_; clear hA ac; intro ac hA
      refine st_rdF (v := vB true) hA (by kernel_rfl) (by kernel_rfl) (by kernel_rfl) (by kernel_rfl) hW.cls (Rd.pure fun _ => by kernel_rfl) ?_; clear hA ac; intro ac hA
      refine st_rdF (v := vB true) hA (by kernel_rfl) (by kernel_rfl) (by kernel_rfl) (by kernel_rfl) hW.cls (Rd.pure fun _ => by kernel_rfl) ?_; clear hA ac; intro ac hA
      refine st_rdF (v := pA n19 0) hA (by kernel_rfl) (by kernel_rfl) (by kernel_rfl) (by kernel_rfl) hW.cls (Rd.pure fun _ => by kernel_rfl) ?_; clear hA ac; intro ac hA
      refine stF hA (by kernel_rfl) (by kernel_rfl) (by kernel_rfl) (by kernel_rfl) (RunsF.of (Runs.callN (v := vI .i64 0) (fun _ => by kernel_rfl) hW (e_splen n19 n20 w24 ((hW).get 0 rfl) ((hW).lt _ (List.mem_of_getElem? (i := 0) rfl))) ?_)); clear hA ac hW; intro w25 hW hfw25 ac hA
      refine st_rdF (v := vB true) hA (by kernel_rfl) (by kernel_rfl) (by kernel_rfl) (by kernel_rfl) hW.cls (Rd.pure fun _ => by kernel_rfl) ?_; clear hA ac; intro ac hA
      refine st_rdF (v := vB true) hA (by kernel_rfl) (by kernel_rfl) (by kernel_rfl) (by kernel_rfl) hW.cls (Rd.pure fun _ => by kernel_rfl) ?_; clear hA ac; intro ac hA
      refine st_rdF (v := vB true) hA (by kernel_rfl) (by kernel_rfl) (by kernel_rfl) (by kernel_rfl) hW.cls (Rd.pure fun _ => by kernel_rfl) ?_; clear hA ac; intro ac hA
      refine st_rdF (v := pA b4 0) hA (by kernel_rfl) (by kernel_rfl) (by kernel_rfl) (by kernel_rfl) hW.cls (Rd.pure fun _ => by kernel_rfl) ?_; clear hA ac; intro ac hA
      refine stF hA (by kernel_rfl) (by kernel_rfl) (by kernel_rfl) (by kernel_rfl) (RunsF.of (Runs.callN (v := vB true) (fun _ => by kernel_rfl) hW (e_rFree_z b4 w25 ((hW).cel 3 rfl)) ?_)); clear hA ac hW; intro w26 hW hfw26 ac hA
      refine st_rdF (v := vB true) hA (by kernel_rfl) (by kernel_rfl) (by kernel_rfl) (by kernel_rfl) hW.cls (Rd.pure fun _ => by kernel_rfl) ?_; clear hA ac; intro ac hA
      refine st_rdF (v := vB true) hA (by kernel_rfl) (by kernel_rfl) (by kernel_rfl) (by kernel_rfl) hW.cls (Rd.pure fun _ => by kernel_rfl) ?_; clear hA ac; intro ac hA
      refine stF hA (by kernel_rfl) (by kernel_rfl) (by kernel_rfl) (by kernel_rfl) (RunsF.of (Runs.callN (v := vB true) (fun _ => by kernel_rfl) hW (e_works w26) ?_)); clear hA ac hW; intro w27 hW hfw27 ac hA
      refine st_rdF (v := vB true) hA (by kernel_rfl) (by kernel_rfl) (by kernel_rfl) (by kernel_rfl) hW.cls (Rd.pure fun _ => by kernel_rfl) ?_; clear hA ac; intro ac hA
      refine stF hA (by kernel_rfl) (by kernel_rfl) (by kernel_rfl) (by kernel_rfl) (RunsF.of (Runs.store (v := vB true) (b := b1) (j := 0) (n := 1) (cs' := #[vB true]) (H' := [PzR n19 n20, Cel b15 #[vI .i64 (⟨0, 0, 0, ⟨⟨0, 0⟩, ⟨0, 0⟩⟩⟩ : Race).i, vI .i64 (⟨0, 0, 0, ⟨⟨0, 0⟩, ⟨0, 0⟩⟩⟩ : Race).j, vI .u32 (⟨0, 0, 0, ⟨⟨0, 0⟩, ⟨0, 0⟩⟩⟩ : Race).addr, vI .i64 (⟨0, 0, 0, ⟨⟨0, 0⟩, ⟨0, 0⟩⟩⟩ : Race).p.a.f, vI .i64 (⟨0, 0, 0, ⟨⟨0, 0⟩, ⟨0, 0⟩⟩⟩ : Race).p.a.pc, vI .i64 (⟨0, 0, 0, ⟨⟨0, 0⟩, ⟨0, 0⟩⟩⟩ : Race).p.b.f, vI .i64 (⟨0, 0, 0, ⟨⟨0, 0⟩, ⟨0, 0⟩⟩⟩ : Race).p.b.pc] 47, DefR D12, Cel b4 #[vS none 0 0, vS none 0 0, vM none, vM none] 64, Cel b1 #[vB true] 4]) (by kernel_rfl) (by kernel_rfl) (by kernel_rfl) (by kernel_rfl) (by kernel_rfl) hW 4 (by rfl) (Nat.le_of_ble_eq_true (by kernel_rfl)) (by kernel_rfl) (by rfl) ?_)); clear hA ac hW; intro w28 hW ac hA
      refine wpListIn_nil <| thenN <| wpIn_ret <| retF (.inl rfl) hA <| leaveD (H' := [PzR n19 n20, Cel b15 #[vI .i64 (⟨0, 0, 0, ⟨⟨0, 0⟩, ⟨0, 0⟩⟩⟩ : Race).i, vI .i64 (⟨0, 0, 0, ⟨⟨0, 0⟩, ⟨0, 0⟩⟩⟩ : Race).j, vI .u32 (⟨0, 0, 0, ⟨⟨0, 0⟩, ⟨0, 0⟩⟩⟩ : Race).addr, vI .i64 (⟨0, 0, 0, ⟨⟨0, 0⟩, ⟨0, 0⟩⟩⟩ : Race).p.a.f, vI .i64 (⟨0, 0, 0, ⟨⟨0, 0⟩, ⟨0, 0⟩⟩⟩ : Race).p.a.pc, vI .i64 (⟨0, 0, 0, ⟨⟨0, 0⟩, ⟨0, 0⟩⟩⟩ : Race).p.b.f, vI .i64 (⟨0, 0, 0, ⟨⟨0, 0⟩, ⟨0, 0⟩⟩⟩ : Race).p.b.pc] 47, Cel b4 #[vS none 0 0, vS none 0 0, vM none, vM none] 64, Cel b1 #[vB true] 4]) hW 2 rfl rfl ?_; clear hW; intro w29 hW
      refine leave1 (v := vB true) (by rfl) (GotF.cell (b := b1) (i := 0) hA (by kernel_rfl) (by kernel_rfl) (hW.cel 3 rfl) (by kernel_rfl)) ?_
      clear hA
      exact ⟨retv (by rfl), hW.fr⟩)
    rw [h22] at hA
    have h22 := ne_of_beq_false h22
    first
    | (exfalso; clear hA hW; omega)
    | (exfalso; clear hA hW; exact h22 rfl; done)
    | (
     refine st_skipF hA (by kernel_rfl) (by kernel_rfl) ?_; clear hA ac; intro ac hA
     refine st_skipF hA (by kernel_rfl) (by kernel_rfl) ?_; clear hA ac; intro ac hA
     refine st_skipF hA (by kernel_rfl) (by kernel_rfl) ?_; clear hA ac; intro ac hA
     refine st_skipF hA (by kernel_rfl) (by kernel_rfl) ?_; clear hA ac; intro ac hA
     refine st_skipF hA (by kernel_rfl) (by kernel_rfl) ?_; clear hA ac; intro ac hA
     refine st_rdF (v := vB false) hA (by kernel_rfl) (by kernel_rfl) (by kernel_rfl) (by kernel_rfl) hW.cls (Rd.pure fun _ => by kernel_rfl) ?_; clear hA ac; intro ac hA
     refine st_rdF (v := vB false) hA (by kernel_rfl) (by kernel_rfl) (by kernel_rfl) (by kernel_rfl) hW.cls (Rd.pure fun _ => by kernel_rfl) ?_; clear hA ac; intro ac hA
     refine st_skipF hA (by kernel_rfl) (by kernel_rfl) ?_; clear hA ac; intro ac hA
     refine st_skipF hA (by kernel_rfl) (by kernel_rfl) ?_; clear hA ac; intro ac hA
     refine st_skipF hA (by kernel_rfl) (by kernel_rfl) ?_; clear hA ac; intro ac hA
     refine st_skipF hA (by kernel_rfl) (by kernel_rfl) ?_; clear hA ac; intro ac hA
     refine st_rdF (v := vB false) hA (by kernel_rfl) (by kernel_rfl) (by kernel_rfl) (by kernel_rfl) hW.cls (Rd.pure fun _ => by kernel_rfl) ?_; clear hA ac; intro ac hA
     refine st_rdF (v := vB false) hA (by kernel_rfl) (by kernel_rfl) (by kernel_rfl) (by kernel_rfl) hW.cls (Rd.pure fun _ => by kernel_rfl) ?_; clear hA ac; intro ac hA
     refine st_skipF hA (by kernel_rfl) (by kernel_rfl) ?_; clear hA ac; intro ac hA
     refine st_skipF hA (by kernel_rfl) (by kernel_rfl) ?_; clear hA ac; intro ac hA
     refine st_rdF (v := vB false) hA (by kernel_rfl) (by kernel_rfl) (by kernel_rfl) (by kernel_rfl) hW.cls (Rd.pure fun _ => by kernel_rfl) ?_; clear hA ac; intro ac hA
     refine st_rdF (v := vB false) hA (by kernel_rfl) (by kernel_rfl) (by kernel_rfl) (by kernel_rfl) hW.cls (Rd.pure fun _ => by kernel_rfl) ?_; clear hA ac; intro ac hA
     refine st_skipF hA (by kernel_rfl) (by kernel_rfl) ?_; clear hA ac; intro ac hA
     refine st_skipF hA (by kernel_rfl) (by kernel_rfl) ?_; clear hA ac; intro ac hA
     refine st_skipF hA (by kernel_rfl) (by kernel_rfl) ?_; clear hA ac; intro ac hA
     refine st_rdF (v := vB false) hA (by kernel_rfl) (by kernel_rfl) (by kernel_rfl) (by kernel_rfl) hW.cls (Rd.pure fun _ => by kernel_rfl) ?_; clear hA ac; intro ac hA
     refine st_rdF (v := vB false) hA (by kernel_rfl) (by kernel_rfl) (by kernel_rfl) (by kernel_rfl) hW.cls (Rd.pure fun _ => by kernel_rfl) ?_; clear hA ac; intro ac hA
     refine st_skipF hA (by kernel_rfl) (by kernel_rfl) ?_; clear hA ac; intro ac hA
     refine st_skipF hA (by kernel_rfl) (by kernel_rfl) ?_; clear hA ac; intro ac hA
     refine st_rdF (v := vB false) hA (by kernel_rfl) (by kernel_rfl) (by kernel_rfl) (by kernel_rfl) hW.cls (Rd.pure fun _ => by kernel_rfl) ?_; clear hA ac; intro ac hA
     refine st_rdF (v := vB false) hA (by kernel_rfl) (by kernel_rfl) (by kernel_rfl) (by kernel_rfl) hW.cls (Rd.pure fun _ => by kernel_rfl) ?_; clear hA ac; intro ac hA
     refine st_skipF hA (by kernel_rfl) (by kernel_rfl) ?_; clear hA ac; intro ac hA
     refine st_rdF (v := vB false) hA (by kernel_rfl) (by kernel_rfl) (by kernel_rfl) (by kernel_rfl) hW.cls (Rd.pure fun _ => by kernel_rfl) ?_; clear hA ac; intro ac hA
     refine stF hA (by kernel_rfl) (by kernel_rfl) (by kernel_rfl) (by kernel_rfl) (RunsF.of (Runs.store (v := vB false) (b := b1) (j := 0) (n := 1) (cs' := #[vB false]) (H' := [PzR n19 n20, Cel b15 #[vI .i64 (⟨0, 0, 0, ⟨⟨0, 0⟩, ⟨0, 0⟩⟩⟩ : Race).i, vI .i64 (⟨0, 0, 0, ⟨⟨0, 0⟩, ⟨0, 0⟩⟩⟩ : Race).j, vI .u32 (⟨0, 0, 0, ⟨⟨0, 0⟩, ⟨0, 0⟩⟩⟩ : Race).addr, vI .i64 (⟨0, 0, 0, ⟨⟨0, 0⟩, ⟨0, 0⟩⟩⟩ : Race).p.a.f, vI .i64 (⟨0, 0, 0, ⟨⟨0, 0⟩, ⟨0, 0⟩⟩⟩ : Race).p.a.pc, vI .i64 (⟨0, 0, 0, ⟨⟨0, 0⟩, ⟨0, 0⟩⟩⟩ : Race).p.b.f, vI .i64 (⟨0, 0, 0, ⟨⟨0, 0⟩, ⟨0, 0⟩⟩⟩ : Race).p.b.pc] 47, DefR D12, Cel b4 #[vS none 0 0, vS none 0 0, vM none, vM none] 64, Cel b1 #[vB false] 4]) (by kernel_rfl) (by kernel_rfl) (by kernel_rfl) (by kernel_rfl) (by kernel_rfl) hW 4 (by rfl) (Nat.le_of_ble_eq_true (by kernel_rfl)) (by kernel_rfl) (by rfl) ?_)); clear hA ac hW; intro w30 hW ac hA
     refine wpListIn_nil <| thenN <| wpIn_ret <| retF (.inl rfl) hA <| leaveD (H' := [PzR n19 n20, Cel b15 #[vI .i64 (⟨0, 0, 0, ⟨⟨0, 0⟩, ⟨0, 0⟩⟩⟩ : Race).i, vI .i64 (⟨0, 0, 0, ⟨⟨0, 0⟩, ⟨0, 0⟩⟩⟩ : Race).j, vI .u32 (⟨0, 0, 0, ⟨⟨0, 0⟩, ⟨0, 0⟩⟩⟩ : Race).addr, vI .i64 (⟨0, 0, 0, ⟨⟨0, 0⟩, ⟨0, 0⟩⟩⟩ : Race).p.a.f, vI .i64 (⟨0, 0, 0, ⟨⟨0, 0⟩, ⟨0, 0⟩⟩⟩ : Race).p.a.pc, vI .i64 (⟨0, 0, 0, ⟨⟨0, 0⟩, ⟨0, 0⟩⟩⟩ : Race).p.b.f, vI .i64 (⟨0, 0, 0, ⟨⟨0, 0⟩, ⟨0, 0⟩⟩⟩ : Race).p.b.pc] 47, Cel b4 #[vS none 0 0, vS none 0 0, vM none, vM none] 64, Cel b1 #[vB false] 4]) hW 2 rfl rfl ?_; clear hW; intro w31 hW
     refine leave1 (v := vB false) (by rfl) (GotF.cell (b := b1) (i := 0) hA (by kernel_rfl) (by kernel_rfl) (hW.cel 3 rfl) (by kernel_rfl)) ?_
     clear hA
     exact ⟨retv (by rfl), hW.fr⟩)
   ·
    clear hA ac hW; intro D32 c_ pre_ Hk_ w33 ac hJ_ hA hW
    exact hJ_.elim)
 first
 | (exfalso; clear hA hW; omega)
 | (exfalso; clear hA hW; exact h3 rfl; done)
 | (
  refine wpIn_skip <| thenN <| wpIn_seq <| wpIn_region_lit <| st_rdF (v := vP none) hA (by kernel_rfl) (by kernel_rfl) (by kernel_rfl) (by kernel_rfl) hW.cls (Rd.pure fun _ => by kernel_rfl) ?_; clear hA ac; intro ac hA
  refine stF hA (by kernel_rfl) (by kernel_rfl) (by kernel_rfl) (by kernel_rfl) (RunsF.of (Runs.call (fun _ => by kernel_rfl) (e_rAll_n w2) ?_))
  rintro _ w34 ⟨lb35, g36, rfl, hIg36, hfg36, hfw34⟩; refine ⟨_, rfl, ?_⟩; have hW0 := hW; have hW := hW0.call hfw34; have hW := hW0.addFromAt hW hfg36 in_nil; clear hW0 hA ac; intro ac hA
  refine st_rdF (v := vF (.func 36) #[] lb35) hA (by kernel_rfl) (by kernel_rfl) (by kernel_rfl) (by kernel_rfl) hW.cls (Rd.pure fun _ => by kernel_rfl) ?_; clear hA ac; intro ac hA
  refine wpListIn_nil <| thenN <| wpIn_seq <| wpIn_seq <| wpIn_region_lit <| st_rdF (v := vF (.func 36) #[] lb35) hA (by kernel_rfl) (by kernel_rfl) (by kernel_rfl) (by kernel_rfl) hW.cls (Rd.pure fun _ => by kernel_rfl) ?_; clear hA ac; intro ac hA
  refine st_rdF (v := vB false) hA (by kernel_rfl) (by kernel_rfl) (by kernel_rfl) (by kernel_rfl) hW.cls (Rd.pure fun _ => by kernel_rfl) ?_; clear hA ac; intro ac hA
  refine wpListIn_nil <| thenN <| wpIn_cond_false (hA.eval (by kernel_rfl)) <| wpIn_skip <| thenN <| wpIn_seq <| wpIn_seq <| wpIn_region_lit <| st_rdF (v := vF (.func 36) #[] lb35) hA (by kernel_rfl) (by kernel_rfl) (by kernel_rfl) (by kernel_rfl) hW.cls (Rd.pure fun _ => by kernel_rfl) ?_; clear hA ac; intro ac hA
  refine wpListIn_nil <| thenN <| wpIn_block <| wp_range (encs := (fun x_ : Race × Nat => #[vI .i64 ((x_.2 : Nat) : Int), x_.1.v])) (Sx := (· = ([] : List Race).zipIdx)) hA (by kernel_rfl) (by kernel_rfl) (enters_of Tryz.func36 (by kernel_rfl) rfl) (by kernel_rfl) (fun _ => rfl) hIg36 (List.forall_mem_singleton.2 (List.mem_of_getElem? (i := 0) rfl)) (fun pre_ H_ => ∃ k : Nat, pre_ = ([] : List Race).zipIdx.take k ∧ k ≤ ([] : List Race).length ∧ H_ = []) (fun _ _ _ => False) (H := []) (K := [Cel b1 #[vB false] 4]) (hW.pick [0] (by decide) rfl) ⟨0, rfl, Nat.zero_le _, rfl⟩ ?_ ?_ ?_
  ·
   clear hA ac hW; intro l_37 rd_37 bs_37 pre_ x_ Hk_ w38 T_37 ac hrd_37 hbs_37 hbr_37 hok_ hJ_ hA hW hB_37 hT_37
   obtain ⟨k, rfl, hk_, rfl⟩ := hJ_
   obtain ⟨y39, rfl, hy39, hlty39, hsny39⟩ := comes_zip hok_ hk_
   replace hA : Fm 59 [] [(0, vI .i64 j), (1, vB zero), (4, pA b1 0), (5, vP none), (6, vF (.func 36) #[] lb35), (10, vB zero), (13, vP none), (14, vF (.func 36) #[] lb35), (15, vF (.func 36) #[] lb35), (16, vB false), (17, vF (.func 36) #[] lb35), (18, vI .i64 (k : Int)), (19, y39.v)] ac := hA.sub (by and_intros <;> first | kernel_rfl | trivial)
   simp at hy39
  ·
   clear hA ac hW; intro D40 xs_ Hk_ w41 ac hS_ hJ_ hA hW
   obtain ⟨k, hpre_, hk_, rfl⟩ := hJ_
   have hke : k = ([] : List Race).length := by have h_ : k ≤ 0 := hk_; show k = 0; omega
   clear hpre_ hS_
   replace hW : Ws w No [DefR D40, Cel b1 #[vB false] 4] [g36] w41 := hW
   refine blkN <| thenN <| wpIn_seq <| wpIn_region_lit <| st_rdF (v := vP none) hA (by kernel_rfl) (by kernel_rfl) (by kernel_rfl) (by kernel_rfl) hW.cls (Rd.pure fun _ => by kernel_rfl) ?_; clear hA ac; intro ac hA
   refine stF hA (by kernel_rfl) (by kernel_rfl) (by kernel_rfl) (by kernel_rfl) (RunsF.of (Runs.callN (v := vT #[(⟨0, 0, 0, ⟨⟨0, 0⟩, ⟨0, 0⟩⟩⟩ : Race).v, vI .i64 1]) (fun _ => by kernel_rfl) hW (e_rFirst_n w41) ?_)); clear hA ac hW; intro w42 hW hfw42 ac hA
   refine st_rdF (v := vT #[(⟨0, 0, 0, ⟨⟨0, 0⟩, ⟨0, 0⟩⟩⟩ : Race).v, vI .i64 1]) hA (by kernel_rfl) (by kernel_rfl) (by kernel_rfl) (by kernel_rfl) hW.cls (Rd.pure fun _ => by kernel_rfl) ?_; clear hA ac; intro ac hA
   refine st_rdF (v := (⟨0, 0, 0, ⟨⟨0, 0⟩, ⟨0, 0⟩⟩⟩ : Race).v) hA (by kernel_rfl) (by kernel_rfl) (by kernel_rfl) (by kernel_rfl) hW.cls (Rd.pure fun _ => by kernel_rfl) ?_; clear hA ac; intro ac hA
   refine st_rdF (v := vI .i64 1) hA (by kernel_rfl) (by kernel_rfl) (by kernel_rfl) (by kernel_rfl) hW.cls (Rd.pure fun _ => by kernel_rfl) ?_; clear hA ac; intro ac hA
   refine stF hA (by kernel_rfl) (by kernel_rfl) (by kernel_rfl) (by kernel_rfl) (RunsF.of (Runs.cells (fun b => pA b 0) #[vI .i64 0, vI .i64 0, vI .u32 0, vI .i64 0, vI .i64 0, vI .i64 0, vI .i64 0] 47 (fun _ => by kernel_rfl) hW ?_)); clear hA ac hW; intro b43 w44 hW hb43 hfw44 ac hA
   refine stF hA (by kernel_rfl) (by kernel_rfl) (by kernel_rfl) (by kernel_rfl) (RunsF.of (Runs.store (v := (⟨0, 0, 0, ⟨⟨0, 0⟩, ⟨0, 0⟩⟩⟩ : Race).v) (b := b43) (j := 0) (n := 7) (cs' := #[vI .i64 (⟨0, 0, 0, ⟨⟨0, 0⟩, ⟨0, 0⟩⟩⟩ : Race).i, vI .i64 (⟨0, 0, 0, ⟨⟨0, 0⟩, ⟨0, 0⟩⟩⟩ : Race).j, vI .u32 (⟨0, 0, 0, ⟨⟨0, 0⟩, ⟨0, 0⟩⟩⟩ : Race).addr, vI .i64 (⟨0, 0, 0, ⟨⟨0, 0⟩, ⟨0, 0⟩⟩⟩ : Race).p.a.f, vI .i64 (⟨0, 0, 0, ⟨⟨0, 0⟩, ⟨0, 0⟩⟩⟩ : Race).p.a.pc, vI .i64 (⟨0, 0, 0, ⟨⟨0, 0⟩, ⟨0, 0⟩⟩⟩ : Race).p.b.f, vI .i64 (⟨0, 0, 0, ⟨⟨0, 0⟩, ⟨0, 0⟩⟩⟩ : Race).p.b.pc]) (H' := [Cel b43 #[vI .i64 (⟨0, 0, 0, ⟨⟨0, 0⟩, ⟨0, 0⟩⟩⟩ : Race).i, vI .i64 (⟨0, 0, 0, ⟨⟨0, 0⟩, ⟨0, 0⟩⟩⟩ : Race).j, vI .u32 (⟨0, 0, 0, ⟨⟨0, 0⟩, ⟨0, 0⟩⟩⟩ : Race).addr, vI .i64 (⟨0, 0, 0, ⟨⟨0, 0⟩, ⟨0, 0⟩⟩⟩ : Race).p.a.f, vI .i64 (⟨0, 0, 0, ⟨⟨0, 0⟩, ⟨0, 0⟩⟩⟩ : Race).p.a.pc, vI .i64 (⟨0, 0, 0, ⟨⟨0, 0⟩, ⟨0, 0⟩⟩⟩ : Race).p.b.f, vI .i64 (⟨0, 0, 0, ⟨⟨0, 0⟩, ⟨0, 0⟩⟩⟩ : Race).p.b.pc] 47, DefR D40, Cel b1 #[vB false] 4]) (by kernel_rfl) (by kernel_rfl) (by kernel_rfl) (by kernel_rfl) (by kernel_rfl) hW 0 (by rfl) (Nat.le_of_ble_eq_true (by kernel_rfl)) (by kernel_rfl) (by rfl) ?_)); clear hA ac hW; intro w45 hW ac hA
   refine st_rdF (v := vI .i64 1) hA (by kernel_rfl) (by kernel_rfl) (by kernel_rfl) (by kernel_rfl) hW.cls (Rd.pure fun _ => by kernel_rfl) ?_; clear hA ac; intro ac hA
   refine wpListIn_nil <| thenN <| wpIn_seq <| wpIn_region_lit <| st_rdF (v := vP none) hA (by kernel_rfl) (by kernel_rfl) (by kernel_rfl) (by kernel_rfl) hW.cls (Rd.pure fun _ => by kernel_rfl) ?_; clear hA ac; intro ac hA
   refine stF hA (by kernel_rfl) (by kernel_rfl) (by kernel_rfl) (by kernel_rfl) (RunsF.of (Runs.call (fun _ => by kernel_rfl) (e_rPairs_n w45) ?_))
   rintro _ w46 ⟨n47, n48, rfl, hu_⟩; refine ⟨_, rfl, ?_⟩; replace hW := hW.made hu_; clear hA ac; intro ac hA
   refine st_rdF (v := pA n47 0) hA (by kernel_rfl) (by kernel_rfl) (by kernel_rfl) (by kernel_rfl) hW.cls (Rd.pure fun _ => by kernel_rfl) ?_; clear hA ac; intro ac hA
   refine wpListIn_nil <| thenN <| wpIn_seq <| wpIn_region_lit <| st_rdF (v := vI .i64 1) hA (by kernel_rfl) (by kernel_rfl) (by kernel_rfl) (by kernel_rfl) hW.cls (Rd.pure fun _ => by kernel_rfl) ?_; clear hA ac; intro ac hA
   refine stF hA (by kernel_rfl) (by kernel_rfl) (by kernel_rfl) (by kernel_rfl) (RunsF.of (Runs.callN (v := vI .i64 (1)) (fun _ => by kernel_rfl) hW (e_num (1) w46) ?_)); clear hA ac hW; intro w49 hW hfw49 ac hA
   refine st_rdF (v := vB (((1) : Int) == (1 : Int))) hA (by kernel_rfl) (by kernel_rfl) (by kernel_rfl) (by kernel_rfl) hW.cls (Rd.pure fun _ => by kernel_rfl) ?_; clear hA ac; intro ac hA
   refine st_rdF (v := vB (((1) : Int) == (1 : Int))) hA (by kernel_rfl) (by kernel_rfl) (by kernel_rfl) (by kernel_rfl) hW.cls (Rd.pure fun _ => by kernel_rfl) ?_; clear hA ac; intro ac hA
   rcases Bool.eq_false_or_eq_true (((1) : Int) == (1 : Int)) with h50 | h50
   ·
    rw [h50] at hA
    have h50 := eq_of_beq h50
    first
    | (exfalso; clear hA hW; omega)
    | (exfalso; clear hA hW; exact h50 rfl; done)
    | (
     refine st_rdF (v := vP none) hA (by kernel_rfl) (by kernel_rfl) (by kernel_rfl) (by kernel_rfl) hW.cls (Rd.pure fun _ => by kernel_rfl) ?_; clear hA ac; intro ac hA
     refine st_rdF (v := vI .i64 j) hA (by kernel_rfl) (by kernel_rfl) (by kernel_rfl) (by kernel_rfl) hW.cls (Rd.pure fun _ => by kernel_rfl) ?_; clear hA ac; intro ac hA
     refine stF hA (by kernel_rfl) (by kernel_rfl) (by kernel_rfl) (by kernel_rfl) (RunsF.of (Runs.callN (v := vS none 0 0) (fun _ => by kernel_rfl) hW (e_rWith_n (j) w49) ?_)); clear hA ac hW; intro w51 hW hfw51 ac hA
     refine st_rdF (v := vI .i64 0) hA (by kernel_rfl) (by kernel_rfl) (by kernel_rfl) (by kernel_rfl) hW.cls (Rd.pure fun _ => by kernel_rfl) ?_; clear hA ac; intro ac hA
     refine st_rdF (v := vB true) hA (by kernel_rfl) (by kernel_rfl) (by kernel_rfl) (by kernel_rfl) hW.cls (Rd.pure fun _ => by kernel_rfl) ?_; clear hA ac; intro ac hA
     refine st_rdF (v := vB true) hA (by kernel_rfl) (by kernel_rfl) (by kernel_rfl) (by kernel_rfl) hW.cls (Rd.pure fun _ => by kernel_rfl) ?_; clear hA ac; intro ac hA
     refine st_rdF (v := vB true) hA (by kernel_rfl) (by kernel_rfl) (by kernel_rfl) (by kernel_rfl) hW.cls (Rd.pure fun _ => by kernel_rfl) ?_; clear hA ac; intro ac hA
     refine st_rdF (v := vP none) hA (by kernel_rfl) (by kernel_rfl) (by kernel_rfl) (by kernel_rfl) hW.cls (Rd.pure fun _ => by kernel_rfl) ?_; clear hA ac; intro ac hA
     refine stF hA (by kernel_rfl) (by kernel_rfl) (by kernel_rfl) (by kernel_rfl) (RunsF.of (Runs.callN (v := vS none 0 0) (fun _ => by kernel_rfl) hW (e_rFirsts_n w51) ?_)); clear hA ac hW; intro w52 hW hfw52 ac hA
     refine st_rdF (v := vI .i64 0) hA (by kernel_rfl) (by kernel_rfl) (by kernel_rfl) (by kernel_rfl) hW.cls (Rd.pure fun _ => by kernel_rfl) ?_; clear hA ac; intro ac hA
     refine st_rdF (v := vB true) hA (by kernel_rfl) (by kernel_rfl) (by kernel_rfl) (by kernel_rfl) hW.cls (Rd.pure fun _ => by kernel_rfl) ?_; clear hA ac; intro ac hA
     refine st_rdF (v := vB true) hA (by kernel_rfl) (by kernel_rfl) (by kernel_rfl) (by kernel_rfl) hW.cls (Rd.pure fun _ => by kernel_rfl) ?_; clear hA ac; intro ac hA
     refine st_rdF (v := vB true) hA (by kernel_rfl) (by kernel_rfl) (by kernel_rfl) (by kernel_rfl) hW.cls (Rd.pure fun _ => by kernel_rfl) ?_; clear hA ac; intro ac hA
     refine st_rdF (v := pA n47 0) hA (by kernel_rfl) (by kernel_rfl) (by kernel_rfl) (by kernel_rfl) hW.cls (Rd.pure fun _ => by kernel_rfl) ?_; clear hA ac; intro ac hA
     refine st_rdF (v := vB true) hA (by kernel_rfl) (by kernel_rfl) (by kernel_rfl) (by kernel_rfl) hW.cls (Rd.pure fun _ => by kernel_rfl) ?_; clear hA ac; intro ac hA
     refine st_rdF (v := vB true) hA (by kernel_rfl) (by kernel_rfl) (by kernel_rfl) (by kernel_rfl) hW.cls (Rd.pure fun _ => by kernel_rfl) ?_; clear hA ac; intro ac hA
     refine st_rdF (v := vB true) hA (by kernel_rfl) (by kernel_rfl) (by kernel_rfl) (by kernel_rfl) hW.cls (Rd.pure fun _ => by kernel_rfl) ?_; clear hA ac; intro ac hA
     refine st_rdF (v := pA n47 0) hA (by kernel_rfl) (by kernel_rfl) (by kernel_rfl) (by kernel_rfl) hW.cls (Rd.pure fun _ => by kernel_rfl) ?_; clear hA ac; intro ac hA
     refine stF hA (by kernel_rfl) (by kernel_rfl) (by kernel_rfl) (by kernel_rfl) (RunsF.of (Runs.callN (v := vI .i64 0) (fun _ => by kernel_rfl) hW (e_splen n47 n48 w52 ((hW).get 0 rfl) ((hW).lt _ (List.mem_of_getElem? (i := 0) rfl))) ?_)); clear hA ac hW; intro w53 hW hfw53 ac hA
     refine st_rdF (v := vB true) hA (by kernel_rfl) (by kernel_rfl) (by kernel_rfl) (by kernel_rfl) hW.cls (Rd.pure fun _ => by kernel_rfl) ?_; clear hA ac; intro ac hA
     refine st_rdF (v := vB true) hA (by kernel_rfl) (by kernel_rfl) (by kernel_rfl) (by kernel_rfl) hW.cls (Rd.pure fun _ => by kernel_rfl) ?_; clear hA ac; intro ac hA
     refine st_rdF (v := vB true) hA (by kernel_rfl) (by kernel_rfl) (by kernel_rfl) (by kernel_rfl) hW.cls (Rd.pure fun _ => by kernel_rfl) ?_; clear hA ac; intro ac hA
     refine st_rdF (v := vP none) hA (by kernel_rfl) (by kernel_rfl) (by kernel_rfl) (by kernel_rfl) hW.cls (Rd.pure fun _ => by kernel_rfl) ?_; clear hA ac; intro ac hA
     refine stF hA (by kernel_rfl) (by kernel_rfl) (by kernel_rfl) (by kernel_rfl) (RunsF.of (Runs.callN (v := vB true) (fun _ => by kernel_rfl) hW (e_rFree_n w53) ?_)); clear hA ac hW; intro w54 hW hfw54 ac hA
     refine st_rdF (v := vB true) hA (by kernel_rfl) (by kernel_rfl) (by kernel_rfl) (by kernel_rfl) hW.cls (Rd.pure fun _ => by kernel_rfl) ?_; clear hA ac; intro ac hA
     refine st_rdF (v := vB true) hA (by kernel_rfl) (by kernel_rfl) (by kernel_rfl) (by kernel_rfl) hW.cls (Rd.pure fun _ => by kernel_rfl) ?_; clear hA ac; intro ac hA
     refine stF hA (by kernel_rfl) (by kernel_rfl) (by kernel_rfl) (by kernel_rfl) (RunsF.of (Runs.callN (v := vB true) (fun _ => by kernel_rfl) hW (e_works w54) ?_)); clear hA ac hW; intro w55 hW hfw55 ac hA
     refine st_rdF (v := vB true) hA (by kernel_rfl) (by kernel_rfl) (by kernel_rfl) (by kernel_rfl) hW.cls (Rd.pure fun _ => by kernel_rfl) ?_; clear hA ac; intro ac hA
     refine stF hA (by kernel_rfl) (by kernel_rfl) (by kernel_rfl) (by kernel_rfl) (RunsF.of (Runs.store (v := vB true) (b := b1) (j := 0) (n := 1) (cs' := #[vB true]) (H' := [PzR n47 n48, Cel b43 #[vI .i64 (⟨0, 0, 0, ⟨⟨0, 0⟩, ⟨0, 0⟩⟩⟩ : Race).i, vI .i64 (⟨0, 0, 0, ⟨⟨0, 0⟩, ⟨0, 0⟩⟩⟩ : Race).j, vI .u32 (⟨0, 0, 0, ⟨⟨0, 0⟩, ⟨0, 0⟩⟩⟩ : Race).addr, vI .i64 (⟨0, 0, 0, ⟨⟨0, 0⟩, ⟨0, 0⟩⟩⟩ : Race).p.a.f, vI .i64 (⟨0, 0, 0, ⟨⟨0, 0⟩, ⟨0, 0⟩⟩⟩ : Race).p.a.pc, vI .i64 (⟨0, 0, 0, ⟨⟨0, 0⟩, ⟨0, 0⟩⟩⟩ : Race).p.b.f, vI .i64 (⟨0, 0, 0, ⟨⟨0, 0⟩, ⟨0, 0⟩⟩⟩ : Race).p.b.pc] 47, DefR D40, Cel b1 #[vB true] 4]) (by kernel_rfl) (by kernel_rfl) (by kernel_rfl) (by kernel_rfl) (by kernel_rfl) hW 3 (by rfl) (Nat.le_of_ble_eq_true (by kernel_rfl)) (by kernel_rfl) (by rfl) ?_)); clear hA ac hW; intro w56 hW ac hA
     refine wpListIn_nil <| thenN <| wpIn_ret <| retF (.inl rfl) hA <| leaveD (H' := [PzR n47 n48, Cel b43 #[vI .i64 (⟨0, 0, 0, ⟨⟨0, 0⟩, ⟨0, 0⟩⟩⟩ : Race).i, vI .i64 (⟨0, 0, 0, ⟨⟨0, 0⟩, ⟨0, 0⟩⟩⟩ : Race).j, vI .u32 (⟨0, 0, 0, ⟨⟨0, 0⟩, ⟨0, 0⟩⟩⟩ : Race).addr, vI .i64 (⟨0, 0, 0, ⟨⟨0, 0⟩, ⟨0, 0⟩⟩⟩ : Race).p.a.f, vI .i64 (⟨0, 0, 0, ⟨⟨0, 0⟩, ⟨0, 0⟩⟩⟩ : Race).p.a.pc, vI .i64 (⟨0, 0, 0, ⟨⟨0, 0⟩, ⟨0, 0⟩⟩⟩ : Race).p.b.f, vI .i64 (⟨0, 0, 0, ⟨⟨0, 0⟩, ⟨0, 0⟩⟩⟩ : Race).p.b.pc] 47, Cel b1 #[vB true] 4]) hW 2 rfl rfl ?_; clear hW; intro w57 hW
     refine leave1 (v := vB true) (by rfl) (GotF.cell (b := b1) (i := 0) hA (by kernel_rfl) (by kernel_rfl) (hW.cel 2 rfl) (by kernel_rfl)) ?_
     clear hA
     exact ⟨retv (by rfl), hW.fr⟩)
   rw [h50] at hA
   have h50 := ne_of_beq_false h50
   first
   | (exfalso; clear hA hW; omega)
   | (exfalso; clear hA hW; exact h50 rfl; done)
   | (
    refine st_skipF hA (by kernel_rfl) (by kernel_rfl) ?_; clear hA ac; intro ac hA
    refine st_skipF hA (by kernel_rfl) (by kernel_rfl) ?_; clear hA ac; intro ac hA
    refine st_skipF hA (by kernel_rfl) (by kernel_rfl) ?_; clear hA ac; intro ac hA
    refine st_skipF hA (by kernel_rfl) (by kernel_rfl) ?_; clear hA ac; intro ac hA
    refine st_skipF hA (by kernel_rfl) (by kernel_rfl) ?_; clear hA ac; intro ac hA
    refine st_rdF (v := vB false) hA (by kernel_rfl) (by kernel_rfl) (by kernel_rfl) (by kernel_rfl) hW.cls (Rd.pure fun _ => by kernel_rfl) ?_; clear hA ac; intro ac hA
    refine st_rdF (v := vB false) hA (by kernel_rfl) (by kernel_rfl) (by kernel_rfl) (by kernel_rfl) hW.cls (Rd.pure fun _ => by kernel_rfl) ?_; clear hA ac; intro ac hA
    refine st_skipF hA (by kernel_rfl) (by kernel_rfl) ?_; clear hA ac; intro ac hA
    refine st_skipF hA (by kernel_rfl) (by kernel_rfl) ?_; clear hA ac; intro ac hA
    refine st_skipF hA (by kernel_rfl) (by kernel_rfl) ?_; clear hA ac; intro ac hA
    refine st_skipF hA (by kernel_rfl) (by kernel_rfl) ?_; clear hA ac; intro ac hA
    refine st_rdF (v := vB false) hA (by kernel_rfl) (by kernel_rfl) (by kernel_rfl) (by kernel_rfl) hW.cls (Rd.pure fun _ => by kernel_rfl) ?_; clear hA ac; intro ac hA
    refine st_rdF (v := vB false) hA (by kernel_rfl) (by kernel_rfl) (by kernel_rfl) (by kernel_rfl) hW.cls (Rd.pure fun _ => by kernel_rfl) ?_; clear hA ac; intro ac hA
    refine st_skipF hA (by kernel_rfl) (by kernel_rfl) ?_; clear hA ac; intro ac hA
    refine st_skipF hA (by kernel_rfl) (by kernel_rfl) ?_; clear hA ac; intro ac hA
    refine st_rdF (v := vB false) hA (by kernel_rfl) (by kernel_rfl) (by kernel_rfl) (by kernel_rfl) hW.cls (Rd.pure fun _ => by kernel_rfl) ?_; clear hA ac; intro ac hA
    refine st_rdF (v := vB false) hA (by kernel_rfl) (by kernel_rfl) (by kernel_rfl) (by kernel_rfl) hW.cls (Rd.pure fun _ => by kernel_rfl) ?_; clear hA ac; intro ac hA
    refine st_skipF hA (by kernel_rfl) (by kernel_rfl) ?_; clear hA ac; intro ac hA
    refine st_skipF hA (by kernel_rfl) (by kernel_rfl) ?_; clear hA ac; intro ac hA
    refine st_skipF hA (by kernel_rfl) (by kernel_rfl) ?_; clear hA ac; intro ac hA
    refine st_rdF (v := vB false) hA (by kernel_rfl) (by kernel_rfl) (by kernel_rfl) (by kernel_rfl) hW.cls (Rd.pure fun _ => by kernel_rfl) ?_; clear hA ac; intro ac hA
    refine st_rdF (v := vB false) hA (by kernel_rfl) (by kernel_rfl) (by kernel_rfl) (by kernel_rfl) hW.cls (Rd.pure fun _ => by kernel_rfl) ?_; clear hA ac; intro ac hA
    refine st_skipF hA (by kernel_rfl) (by kernel_rfl) ?_; clear hA ac; intro ac hA
    refine st_skipF hA (by kernel_rfl) (by kernel_rfl) ?_; clear hA ac; intro ac hA
    refine st_rdF (v := vB false) hA (by kernel_rfl) (by kernel_rfl) (by kernel_rfl) (by kernel_rfl) hW.cls (Rd.pure fun _ => by kernel_rfl) ?_; clear hA ac; intro ac hA
    refine st_rdF (v := vB false) hA (by kernel_rfl) (by kernel_rfl) (by kernel_rfl) (by kernel_rfl) hW.cls (Rd.pure fun _ => by kernel_rfl) ?_; clear hA ac; intro ac hA
    refine st_skipF hA (by kernel_rfl) (by kernel_rfl) ?_; clear hA ac; intro ac hA
    refine st_rdF (v := vB false) hA (by kernel_rfl) (by kernel_rfl) (by kernel_rfl) (by kernel_rfl) hW.cls (Rd.pure fun _ => by kernel_rfl) ?_; clear hA ac; intro ac hA
    refine stF hA (by kernel_rfl) (by kernel_rfl) (by kernel_rfl) (by kernel_rfl) (RunsF.of (Runs.store (v := vB false) (b := b1) (j := 0) (n := 1) (cs' := #[vB false]) (H' := [PzR n47 n48, Cel b43 #[vI .i64 (⟨0, 0, 0, ⟨⟨0, 0⟩, ⟨0, 0⟩⟩⟩ : Race).i, vI .i64 (⟨0, 0, 0, ⟨⟨0, 0⟩, ⟨0, 0⟩⟩⟩ : Race).j, vI .u32 (⟨0, 0, 0, ⟨⟨0, 0⟩, ⟨0, 0⟩⟩⟩ : Race).addr, vI .i64 (⟨0, 0, 0, ⟨⟨0, 0⟩, ⟨0, 0⟩⟩⟩ : Race).p.a.f, vI .i64 (⟨0, 0, 0, ⟨⟨0, 0⟩, ⟨0, 0⟩⟩⟩ : Race).p.a.pc, vI .i64 (⟨0, 0, 0, ⟨⟨0, 0⟩, ⟨0, 0⟩⟩⟩ : Race).p.b.f, vI .i64 (⟨0, 0, 0, ⟨⟨0, 0⟩, ⟨0, 0⟩⟩⟩ : Race).p.b.pc] 47, DefR D40, Cel b1 #[vB false] 4]) (by kernel_rfl) (by kernel_rfl) (by kernel_rfl) (by kernel_rfl) (by kernel_rfl) hW 3 (by rfl) (Nat.le_of_ble_eq_true (by kernel_rfl)) (by kernel_rfl) (by rfl) ?_)); clear hA ac hW; intro w58 hW ac hA
    refine wpListIn_nil <| thenN <| wpIn_ret <| retF (.inl rfl) hA <| leaveD (H' := [PzR n47 n48, Cel b43 #[vI .i64 (⟨0, 0, 0, ⟨⟨0, 0⟩, ⟨0, 0⟩⟩⟩ : Race).i, vI .i64 (⟨0, 0, 0, ⟨⟨0, 0⟩, ⟨0, 0⟩⟩⟩ : Race).j, vI .u32 (⟨0, 0, 0, ⟨⟨0, 0⟩, ⟨0, 0⟩⟩⟩ : Race).addr, vI .i64 (⟨0, 0, 0, ⟨⟨0, 0⟩, ⟨0, 0⟩⟩⟩ : Race).p.a.f, vI .i64 (⟨0, 0, 0, ⟨⟨0, 0⟩, ⟨0, 0⟩⟩⟩ : Race).p.a.pc, vI .i64 (⟨0, 0, 0, ⟨⟨0, 0⟩, ⟨0, 0⟩⟩⟩ : Race).p.b.f, vI .i64 (⟨0, 0, 0, ⟨⟨0, 0⟩, ⟨0, 0⟩⟩⟩ : Race).p.b.pc] 47, Cel b1 #[vB false] 4]) hW 2 rfl rfl ?_; clear hW; intro w59 hW
    refine leave1 (v := vB false) (by rfl) (GotF.cell (b := b1) (i := 0) hA (by kernel_rfl) (by kernel_rfl) (hW.cel 2 rfl) (by kernel_rfl)) ?_
    clear hA
    exact ⟨retv (by rfl), hW.fr⟩)
  ·
   clear hA ac hW; intro D60 c_ pre_ Hk_ w61 ac hJ_ hA hW
   exact hJ_.elim)

theorem raceNone_walk (j : Int) (zero : Bool) (w : World) (hy : Lit.wf (.int .i64 j)) :
    Calls Tryz.prog 6 #[.int .i64 j, .bool zero] w fun e w' => e = .returned (.bool true) ∧ Fr No w w' :=
  e_raceNone j zero w (by simpa [Lit.wf, IntKind.min, IntKind.max, IntKind.bits, IntKind.signed] using hy)

end Go.Proofs.YtfkbjfbbigbacaaGreatDoor.L
