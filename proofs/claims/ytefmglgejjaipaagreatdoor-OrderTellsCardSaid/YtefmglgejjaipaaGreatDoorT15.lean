/- Contracts, walked by program over the engine's laws. -/
import Derived.Test.YtefmglgejjaipaaGreatDoorProg
import Derived.Test.YtefmglgejjaipaaGreatDoorT14
namespace Go.Proofs.YtefmglgejjaipaaGreatDoor.L
open Go.RowKit
open Go.Value renaming int → vI, slice → vS, bool → vB, pointer → vP, func → vF, agg → vA, map → vM, tuple → vT

def wE : List Event := [⟨0, 6, ⟨0, 0⟩, 0, 0, 0, 0, 0⟩, ⟨1, 2, ⟨0, 0⟩, 0, 0, 0, 0, 0⟩, ⟨1, 5, ⟨0, 0⟩, 0, 0, 0, 0, 0⟩, ⟨0, 3, ⟨0, 0⟩, 0, 0, 0, 0, 0⟩]
set_option maxRecDepth 100000 in
theorem close_w : closeP wE wE.length = [⟨0, 2⟩, ⟨1, 2⟩, ⟨0, 3⟩] := by decide
set_option maxRecDepth 100000 in
theorem bef_w : befE wE 0 2 = true ∧ befE wE 0 1 = false ∧ apartE wE 1 3 = true ∧ clkE wE 2 = [1, 2] := by decide
set_option maxRecDepth 100000 in
theorem e_num (n_ : Int) (w : World)  : Calls Tryz.prog 11 #[vI .i64 n_] w (fun e w' => e = .returned (vI .i64 n_) ∧ Fr No w w') := by
 refine enter_E 4 Tryz.func11 rfl rfl (by kernel_rfl) (L := [(0, vI .i64 n_)]) (by kernel_rfl) ?_
 intro ac hA
 have hW := Ws.start w No
 refine wr <| st_p (vI .i64 0) hA ?_; clear hA ac; intro ac hA
 refine wn <| wr <| st_p (vI .i64 n_) hA fun ac hA => st_p (vI .i64 n_) hA fun ac hA => wn <| wp_ret <| r1 (vI .i64 n_) hA ?_
 clear hA
 exact ⟨retv (by rfl), hW.fr⟩

set_option maxRecDepth 100000 in
theorem e_works  (w : World)  : Calls Tryz.prog 8 #[] w (fun e w' => e = .returned (vB true) ∧ Fr No w w') := by
 refine enter_F 68 Tryz.func8 rfl rfl (by kernel_rfl) (L := []) (by kernel_rfl) ?_
 intro ac hA
 have hW := Ws.start w No
 refine wpIn_seq <| wpIn_region_lit <| sf_s hA (RunsF.of (Runs.cells (fun b => pA b 0) #[vB false] 4 (fun _ => by kernel_rfl) hW ?_)); clear hA ac hW; intro b1 w2 hW hb1 hfw2 ac hA
 refine wpListIn_nil <| thenN <| wpIn_seq <| wpIn_region_lit <| sf_p (vA #[vI .i64 0, vI .i64 6, vI .i64 0, vI .i64 0, vI .u32 0, vI .i64 0, vI .i64 0, vI .i64 0, vI .i64 0]) hA fun ac hA => sf_p (vA #[vI .i64 1, vI .i64 2, vI .i64 0, vI .i64 0, vI .u32 0, vI .i64 0, vI .i64 0, vI .i64 0, vI .i64 0]) hA fun ac hA => sf_p (vA #[vI .i64 1, vI .i64 5, vI .i64 0, vI .i64 0, vI .u32 0, vI .i64 0, vI .i64 0, vI .i64 0, vI .i64 0]) hA fun ac hA => sf_p (vA #[vI .i64 0, vI .i64 3, vI .i64 0, vI .i64 0, vI .u32 0, vI .i64 0, vI .i64 0, vI .i64 0, vI .i64 0]) hA fun ac hA => sf_s hA (RunsF.of (Runs.cells (fun b => vS (some ⟨b, 0, none⟩) 4 4) #[vI .i64 0, vI .i64 6, vI .i64 0, vI .i64 0, vI .u32 0, vI .i64 0, vI .i64 0, vI .i64 0, vI .i64 0, vI .i64 1, vI .i64 2, vI .i64 0, vI .i64 0, vI .u32 0, vI .i64 0, vI .i64 0, vI .i64 0, vI .i64 0, vI .i64 1, vI .i64 5, vI .i64 0, vI .i64 0, vI .u32 0, vI .i64 0, vI .i64 0, vI .i64 0, vI .i64 0, vI .i64 0, vI .i64 3, vI .i64 0, vI .i64 0, vI .u32 0, vI .i64 0, vI .i64 0, vI .i64 0, vI .i64 0] 50 (fun _ => by kernel_rfl) hW ?_)); clear hA ac hW; intro b3 w4 hW hb3 hfw4 ac hA
 refine sf_s hA (RunsF.of (Runs.call (fun _ => by kernel_rfl) (e_onew (some ⟨b3, 0, none⟩) 4 ([(⟨0, 6, (⟨0, 0⟩ : Site), 0, 0, 0, 0, 0⟩ : Event), (⟨1, 2, (⟨0, 0⟩ : Site), 0, 0, 0, 0, 0⟩ : Event), (⟨1, 5, (⟨0, 0⟩ : Site), 0, 0, 0, 0, 0⟩ : Event), (⟨0, 3, (⟨0, 0⟩ : Site), 0, 0, 0, 0, 0⟩ : Event)] : List Event) w4 (rowAt_cel ((hW).cel 0 rfl) ([(⟨0, 6, (⟨0, 0⟩ : Site), 0, 0, 0, 0, 0⟩ : Event), (⟨1, 2, (⟨0, 0⟩ : Site), 0, 0, 0, 0, 0⟩ : Event), (⟨1, 5, (⟨0, 0⟩ : Site), 0, 0, 0, 0, 0⟩ : Event), (⟨0, 3, (⟨0, 0⟩ : Site), 0, 0, 0, 0, 0⟩ : Event)] : List Event) (by rfl) elt_Event.len) (by first | assumption | omega | (simp; omega) | simp) (by first | decide | omega | assumption | (rw [hck_]; decide)) (by first | decide | omega | assumption | (rw [hck_]; decide)) (by first | decide | omega | assumption | (rw [hck_]; decide))) ?_))
 rintro _ w5 ⟨n6, n7, n8, n9, n10, n11, n12, n13, n14, n15, rfl, hw5_hK, hu_⟩; refine ⟨_, rfl, ?_⟩; replace hW := hW.made hu_; clear hA ac; intro ac hA
 refine sf_p (vT #[pA n6 0, vI .i64 0]) hA fun ac hA => sf_p (pA n6 0) hA fun ac hA => sf_p (vI .i64 0) hA fun ac hA => sf_p (pA n6 0) hA fun ac hA => sf_p (vI .i64 0) hA fun ac hA => wpListIn_nil <| thenN <| wpIn_seq ?_
 have hokw_ : OrdOk wE n11 n13 n15 := hw5_hK
 replace hW : Ws w No [OrdR n6 n7 n8 wE n9 n10 n11 n12 n13 n14 n15, Cel b3 #[vI .i64 0, vI .i64 6, vI .i64 0, vI .i64 0, vI .u32 0, vI .i64 0, vI .i64 0, vI .i64 0, vI .i64 0, vI .i64 1, vI .i64 2, vI .i64 0, vI .i64 0, vI .u32 0, vI .i64 0, vI .i64 0, vI .i64 0, vI .i64 0, vI .i64 1, vI .i64 5, vI .i64 0, vI .i64 0, vI .u32 0, vI .i64 0, vI .i64 0, vI .i64 0, vI .i64 0, vI .i64 0, vI .i64 3, vI .i64 0, vI .i64 0, vI .u32 0, vI .i64 0, vI .i64 0, vI .i64 0, vI .i64 0] 50, Cel b1 #[vB false] 4] [] w5 := hW
 have hl3_ : (closeP wE wE.length).length = 3 := by rw [close_w]; rfl
 have hb2_ : befE wE 0 2 = true := bef_w.1; have hb1_ : befE wE 0 1 = false := bef_w.2.1; have hap_ : apartE wE 1 3 = true := bef_w.2.2.1; have hck_ : clkE wE 2 = [1, 2] := bef_w.2.2.2
 refine wpIn_region_lit <| sf_p (vA #[vI .i64 0, vI .i64 2]) hA fun ac hA => sf_p (vA #[vI .i64 1, vI .i64 2]) hA fun ac hA => sf_p (vA #[vI .i64 0, vI .i64 3]) hA fun ac hA => sf_s hA (RunsF.of (Runs.cells (fun b => vS (some ⟨b, 0, none⟩) 3 3) #[vI .i64 0, vI .i64 2, vI .i64 1, vI .i64 2, vI .i64 0, vI .i64 3] 67 (fun _ => by kernel_rfl) hW ?_)); clear hA ac hW; intro b16 w17 hW hb16 hfw17 ac hA
 refine sf_s hA (RunsF.of (Runs.cells (fun b => pA b 0) #[vS none 0 0] 68 (fun _ => by kernel_rfl) hW ?_)); clear hA ac hW; intro b18 w19 hW hb18 hfw19 ac hA
 refine sf_s hA (RunsF.of (Runs.store (v := vS (some ⟨b16, 0, none⟩) 3 3) (b := b18) (j := 0) (n := 1) (cs' := #[vS (some ⟨b16, 0, none⟩) 3 3]) (H' := [Cel b18 #[vS (some ⟨b16, 0, none⟩) 3 3] 68, Cel b16 #[vI .i64 0, vI .i64 2, vI .i64 1, vI .i64 2, vI .i64 0, vI .i64 3] 67, OrdR n6 n7 n8 wE n9 n10 n11 n12 n13 n14 n15, Cel b3 #[vI .i64 0, vI .i64 6, vI .i64 0, vI .i64 0, vI .u32 0, vI .i64 0, vI .i64 0, vI .i64 0, vI .i64 0, vI .i64 1, vI .i64 2, vI .i64 0, vI .i64 0, vI .u32 0, vI .i64 0, vI .i64 0, vI .i64 0, vI .i64 0, vI .i64 1, vI .i64 5, vI .i64 0, vI .i64 0, vI .u32 0, vI .i64 0, vI .i64 0, vI .i64 0, vI .i64 0, vI .i64 0, vI .i64 3, vI .i64 0, vI .i64 0, vI .u32 0, vI .i64 0, vI .i64 0, vI .i64 0, vI .i64 0] 50, Cel b1 #[vB false] 4]) (by kernel_rfl) (by kernel_rfl) (by kernel_rfl) (by kernel_rfl) (by kernel_rfl) hW 0 (by rfl) (Nat.le_of_ble_eq_true (by kernel_rfl)) (by kernel_rfl) (by rfl) ?_)); clear hA ac hW; intro w20 hW ac hA
 refine wpListIn_nil <| thenN <| wpIn_seq <| wpIn_region_lit <| sf_p (pA n6 0) hA ?_; clear hA ac; intro ac hA
 refine sf_s hA (RunsF.of (Runs.call (fun _ => by kernel_rfl) (e_oClose n6 n7 n8 wE n9 n10 n11 n12 n13 n14 n15 w20 ((hW).get 2 rfl) ((hW).lt _ (List.mem_of_getElem? (i := 2) rfl)) (by first | decide | omega | assumption | (rw [hck_]; decide)) (by first | decide | omega | assumption | (rw [hck_]; decide))) ?_))
 rintro _ w21 ⟨lb22, g23, rfl, hIg23, hfg23, hfw21⟩; refine ⟨_, rfl, ?_⟩; have hW0 := hW; have hW := hW0.call hfw21; have hW := hW0.addFromAt hW hfg23 in_nil; clear hW0 hA ac; intro ac hA
 refine sf_p (vF (.func 31) #[] lb22) hA ?_; clear hA ac; intro ac hA
 refine wpListIn_nil <| thenN <| wpIn_seq <| wpIn_seq <| wpIn_region_lit <| sf_p (vF (.func 31) #[] lb22) hA fun ac hA => sf_p (vB false) hA fun ac hA => wpListIn_nil <| thenN <| wpIn_cond_false (hA.eval (by kernel_rfl)) <| wpIn_skip <| thenN <| wpIn_seq <| wpIn_region_lit <| sf_s hA (RunsF.of (Runs.cells (fun b => pA b 0) #[vI .i64 0] 3 (fun _ => by kernel_rfl) hW ?_)); clear hA ac hW; intro b24 w25 hW hb24 hfw25 ac hA
 refine sf_s hA (RunsF.of (Runs.store (v := vI .i64 0) (b := b24) (j := 0) (n := 1) (cs' := #[vI .i64 0]) (H' := [Cel b24 #[vI .i64 0] 3, Cel b18 #[vS (some ⟨b16, 0, none⟩) 3 3] 68, Cel b16 #[vI .i64 0, vI .i64 2, vI .i64 1, vI .i64 2, vI .i64 0, vI .i64 3] 67, OrdR n6 n7 n8 wE n9 n10 n11 n12 n13 n14 n15, Cel b3 #[vI .i64 0, vI .i64 6, vI .i64 0, vI .i64 0, vI .u32 0, vI .i64 0, vI .i64 0, vI .i64 0, vI .i64 0, vI .i64 1, vI .i64 2, vI .i64 0, vI .i64 0, vI .u32 0, vI .i64 0, vI .i64 0, vI .i64 0, vI .i64 0, vI .i64 1, vI .i64 5, vI .i64 0, vI .i64 0, vI .u32 0, vI .i64 0, vI .i64 0, vI .i64 0, vI .i64 0, vI .i64 0, vI .i64 3, vI .i64 0, vI .i64 0, vI .u32 0, vI .i64 0, vI .i64 0, vI .i64 0, vI .i64 0] 50, Cel b1 #[vB false] 4]) (by kernel_rfl) (by kernel_rfl) (by kernel_rfl) (by kernel_rfl) (by kernel_rfl) hW 0 (by rfl) (Nat.le_of_ble_eq_true (by kernel_rfl)) (by kernel_rfl) (by rfl) ?_)); clear hA ac hW; intro w26 hW ac hA
 refine wpListIn_nil <| thenN <| wpIn_seq <| wpIn_seq ?_
 have hW := hW.share 2 rfl (H' := [Cel b24 #[vI .i64 0] 3, Cel b18 #[vS (some ⟨b16, 0, none⟩) 3 3] 68, OrdR n6 n7 n8 wE n9 n10 n11 n12 n13 n14 n15, Cel b3 #[vI .i64 0, vI .i64 6, vI .i64 0, vI .i64 0, vI .u32 0, vI .i64 0, vI .i64 0, vI .i64 0, vI .i64 0, vI .i64 1, vI .i64 2, vI .i64 0, vI .i64 0, vI .u32 0, vI .i64 0, vI .i64 0, vI .i64 0, vI .i64 0, vI .i64 1, vI .i64 5, vI .i64 0, vI .i64 0, vI .u32 0, vI .i64 0, vI .i64 0, vI .i64 0, vI .i64 0, vI .i64 0, vI .i64 3, vI .i64 0, vI .i64 0, vI .u32 0, vI .i64 0, vI .i64 0, vI .i64 0, vI .i64 0] 50, Cel b1 #[vB false] 4]) rfl
 refine wpIn_region_lit <| sf_p (vF (.func 31) #[] lb22) hA ?_; clear hA ac; intro ac hA
 refine wpListIn_nil <| thenN <| wpIn_block ?_
 have hW := hW.share 1 rfl (H' := [Cel b24 #[vI .i64 0] 3, OrdR n6 n7 n8 wE n9 n10 n11 n12 n13 n14 n15, Cel b3 #[vI .i64 0, vI .i64 6, vI .i64 0, vI .i64 0, vI .u32 0, vI .i64 0, vI .i64 0, vI .i64 0, vI .i64 0, vI .i64 1, vI .i64 2, vI .i64 0, vI .i64 0, vI .u32 0, vI .i64 0, vI .i64 0, vI .i64 0, vI .i64 0, vI .i64 1, vI .i64 5, vI .i64 0, vI .i64 0, vI .u32 0, vI .i64 0, vI .i64 0, vI .i64 0, vI .i64 0, vI .i64 0, vI .i64 3, vI .i64 0, vI .i64 0, vI .u32 0, vI .i64 0, vI .i64 0, vI .i64 0, vI .i64 0] 50, Cel b1 #[vB false] 4]) rfl
 refine wp_range (encs := (fun x_ : Two => #[vI .i64 x_.a, vI .i64 x_.b])) (Sx := (· = (closeP wE wE.length))) hA (by kernel_rfl) (by kernel_rfl) (enters_of Tryz.func31 (by kernel_rfl) rfl) (by kernel_rfl) (fun _ => rfl) hIg23 (List.forall_mem_singleton.2 (List.mem_of_getElem? (i := 2) rfl)) (fun pre_ H_ => ∃ k : Nat, pre_ = (closeP wE wE.length).take k ∧ k ≤ (closeP wE wE.length).length ∧ H_ = [Cel b24 #[vI .i64 (k : Int)] 3]) (fun _ _ _ => False) (H := [Cel b24 #[vI .i64 0] 3]) (K := [OrdR n6 n7 n8 wE n9 n10 n11 n12 n13 n14 n15, Cel b3 #[vI .i64 0, vI .i64 6, vI .i64 0, vI .i64 0, vI .u32 0, vI .i64 0, vI .i64 0, vI .i64 0, vI .i64 0, vI .i64 1, vI .i64 2, vI .i64 0, vI .i64 0, vI .u32 0, vI .i64 0, vI .i64 0, vI .i64 0, vI .i64 0, vI .i64 1, vI .i64 5, vI .i64 0, vI .i64 0, vI .u32 0, vI .i64 0, vI .i64 0, vI .i64 0, vI .i64 0, vI .i64 0, vI .i64 3, vI .i64 0, vI .i64 0, vI .u32 0, vI .i64 0, vI .i64 0, vI .i64 0, vI .i64 0] 50, Cel b1 #[vB false] 4]) (hW.pick [0, 1, 2, 3] (by decide) rfl) ⟨0, rfl, Nat.zero_le _, rfl⟩ ?_ ?_ ?_
 ·
  clear hA ac hW; intro l_27 rd_27 bs_27 pre_ x_ Hk_ w28 T_27 ac hrd_27 hbs_27 hbr_27 hok_ hJ_ hA hW hB_27 hT_27
  obtain ⟨k, rfl, hk_, rfl⟩ := hJ_
  obtain ⟨y29, h_⟩ : ∃ y_, y_ = x_ := ⟨_, rfl⟩; subst h_; obtain ⟨hy29, hlty29, hsny29⟩ := comes_list hok_ hk_
  replace hA : Fm 68 [] [(0, pA b1 0), (1, pA n6 0), (2, vI .i64 0), (3, pA b18 0), (4, vF (.func 31) #[] lb22), (5, pA b24 0), (8, vT #[pA n6 0, vI .i64 0]), (9, vA #[vI .i64 0, vI .i64 6, vI .i64 0, vI .i64 0, vI .u32 0, vI .i64 0, vI .i64 0, vI .i64 0, vI .i64 0]), (10, vA #[vI .i64 1, vI .i64 2, vI .i64 0, vI .i64 0, vI .u32 0, vI .i64 0, vI .i64 0, vI .i64 0, vI .i64 0]), (11, vA #[vI .i64 1, vI .i64 5, vI .i64 0, vI .i64 0, vI .u32 0, vI .i64 0, vI .i64 0, vI .i64 0, vI .i64 0]), (12, vA #[vI .i64 0, vI .i64 3, vI .i64 0, vI .i64 0, vI .u32 0, vI .i64 0, vI .i64 0, vI .i64 0, vI .i64 0]), (13, vS (some ⟨b3, 0, none⟩) 4 4), (14, vT #[pA n6 0, vI .i64 0]), (15, pA n6 0), (16, vI .i64 0), (17, vA #[vI .i64 0, vI .i64 2]), (18, vA #[vI .i64 1, vI .i64 2]), (19, vA #[vI .i64 0, vI .i64 3]), (20, vS (some ⟨b16, 0, none⟩) 3 3), (21, pA n6 0), (22, vF (.func 31) #[] lb22), (23, vF (.func 31) #[] lb22), (24, vB false), (25, vF (.func 31) #[] lb22), (26, vI .i64 y29.a), (27, vI .i64 y29.b)] ac := hA.sub (by and_intros <;> first | kernel_rfl | trivial)
  refine wpIn_seq <| wpIn_region_lit <| sf_p (vI .i64 y29.a) hA ?_; clear hA ac; intro ac hA
  refine wpListIn_nil <| thenN <| wpIn_region_lit <| sf_p (vI .i64 y29.b) hA ?_; clear hA ac; intro ac hA
  refine wpListIn_nil <| thenN <| begun (bs := bs_27) (H' := [bs_27, Cel b24 #[vI .i64 (k : Int)] 3]) hW 0 rfl (fun b hb => by rw [hbs_27] at hb; rw [hrd_27]; exact hb) rfl ?_; clear hW; intro w30 hW
  refine wpIn_block <| wpIn_seq <| wpIn_seq <| wpIn_region_lit <| sf_q (vI .i64 (k : Int)) hA hW.cls (rl b24 0 1) fun ac hA => sf_p (vB (decide ((k : Int) ≥ (3 : Int)))) hA fun ac hA => sf_p (vB (decide ((k : Int) ≥ (3 : Int)))) hA fun ac hA => ?_
  rcases Bool.eq_false_or_eq_true (decide ((k : Int) ≥ (3 : Int))) with h31 | h31
  ·
   rw [h31] at hA
   have h31 := of_decide_eq_true h31
   first
   | (exfalso; clear hA hW; omega)
   | (exfalso; clear hA hW; exact absurd (h31.symm.trans hb2_) (by decide); done)
   | (exfalso; clear hA hW; exact absurd (h31.symm.trans hb1_) (by decide); done)
   | (exfalso; clear hA hW; exact absurd (h31.symm.trans hap_) (by decide); done)
   | (exfalso; clear hA hW; exact absurd hck_ (of_decide_eq_false h31); done)
   | (exfalso; clear hA hW; exact absurd hck_ h31; done)
   | (
    fail)
  rw [h31] at hA
  have h31 := of_decide_eq_false h31
  first
  | (exfalso; clear hA hW; omega)
  | (exfalso; clear hA hW; exact absurd (h31.symm.trans hb2_) (by decide); done)
  | (exfalso; clear hA hW; exact absurd (h31.symm.trans hb1_) (by decide); done)
  | (exfalso; clear hA hW; exact absurd (h31.symm.trans hap_) (by decide); done)
  | (exfalso; clear hA hW; exact absurd hck_ (of_decide_eq_false h31); done)
  | (exfalso; clear hA hW; exact absurd hck_ h31; done)
  | (
   refine sf_q (vS (some ⟨b16, 0, none⟩) 3 3) hA hW.cls (Rd.load (b := b18) (i := 0) (by kernel_rfl) (fun _ hw => show _ = _ from (hw.1).getG 0 rfl) (by kernel_rfl)) fun ac hA => sf_q (vI .i64 (k : Int)) hA hW.cls (rl b24 0 1) fun ac hA => ?_
   obtain ⟨y32, hy32⟩ : ∃ y, ([(⟨0, 2⟩ : Two), (⟨1, 2⟩ : Two), (⟨0, 3⟩ : Two)] : List Two)[k]? = some y := ⟨_, List.getElem?_eq_getElem (by first | omega | (simp; done) | (simp; omega))⟩
   refine sf_q (vP (some ⟨b16, 0 + k * 2, none⟩)) hA hW.cls (Rd.indexAddr (e := 67) (sz := 2) (b := b16) (off := 0) (n := 3) (c := 3) (k := k) (by kernel_rfl) (by kernel_rfl) (by first | omega | (simp; done) | (simp; omega)) (fun _ => by kernel_rfl) (fun _ => by kernel_rfl)) fun ac hA => sf_q (vA #[vI .i64 y32.a, vI .i64 y32.b]) hA hW.cls (Rd.loadRow (b := b16) (i := 0 + k * 2) (xs := [vI .i64 y32.a, vI .i64 y32.b]) (by kernel_rfl) (fun _ hw => row_ld (rowAt_cel (show _ = _ from (hw.1).getG 1 rfl) ([(⟨0, 2⟩ : Two), (⟨1, 2⟩ : Two), (⟨0, 3⟩ : Two)] : List Two) (by rfl) elt_Two.len) hy32 (Fr.refl No _) (fun h => h) 0 2 (by kernel_rfl)) (by kernel_rfl)) fun ac hA => sf_p (vI .i64 y29.a) hA fun ac hA => sf_p (vI .i64 y29.b) hA fun ac hA => sf_p (vA #[vI .i64 y29.a, vI .i64 y29.b]) hA fun ac hA => sf_q (vB (!decide (y32 = y29))) hA hW.cls (Rd.neS (u := y32.v) (v := y29.v) (by kernel_rfl) (by kernel_rfl) rfl rfl (by kernel_rfl) (fun w => eq_Two w y32 y29)) fun ac hA => sf_p (vB (!decide (y32 = y29))) hA fun ac hA => wpListIn_nil <| thenN <| wpIn_cond_split (t := !decide (y32 = y29)) (hA.eval (by kernel_rfl)) (fun h33 => ?_) (fun h33 => ?_)
   ·
    have h33 := not_t h33
    have h33 := of_decide_eq_false h33
    have h33e := fun e => h33 ((Two.eqi _ _).2 e)
    first
    | (exfalso; clear hA hW; omega)
    | (exfalso; clear hA hW; exact h33 (Option.some.inj (hy32.symm.trans ((congrArg (fun l_ : List Two => l_[k]?) close_w).symm.trans hy29))); done)
    | (
     fail)
   have h33 := not_f h33
   have h33 := of_decide_eq_true h33
   have h33e := (Two.eqi _ _).1 h33
   first
   | (exfalso; clear hA hW; omega)
   | (exfalso; clear hA hW; exact absurd (h33.symm.trans hb2_) (by decide); done)
   | (exfalso; clear hA hW; exact absurd (h33.symm.trans hb1_) (by decide); done)
   | (exfalso; clear hA hW; exact absurd (h33.symm.trans hap_) (by decide); done)
   | (exfalso; clear hA hW; exact absurd hck_ (of_decide_eq_false h33); done)
   | (exfalso; clear hA hW; exact absurd hck_ h33; done)
   | (
    refine wpIn_skip <| thenN <| wpIn_region_lit <| sf_q (vI .i64 (k : Int)) hA hW.cls (rl b24 0 1) fun ac hA => sf_q (vI .i64 ((k + 1 : Nat) : Int)) hA hW.cls (Rd.pureE (v0 := vI .i64 (IntKind.i64.wrap ((k : Int) + 1))) (fun _ => by kernel_rfl) (congrArg (vI .i64) ((w_i64 (x := (k : Int) + 1) (by omega) (by omega)).trans (by omega)))) fun ac hA => sf_s hA (RunsF.of (Runs.store (v := vI .i64 ((k + 1 : Nat) : Int)) (b := b24) (j := 0) (n := 1) (cs' := #[vI .i64 ((k + 1 : Nat) : Int)]) (H' := [bs_27, Cel b24 #[vI .i64 ((k + 1 : Nat) : Int)] 3]) (by kernel_rfl) (by kernel_rfl) (by kernel_rfl) (by kernel_rfl) (by kernel_rfl) hW 1 (by rfl) (Nat.le_of_ble_eq_true (by kernel_rfl)) (by kernel_rfl) (by rfl) ?_)); clear hA ac hW; intro w34 hW ac hA
    refine wpListIn_nil <| blkN ?_
    exact ⟨_, ⟨k + 1, hsny29, hlty29, rfl⟩, (hW.pick [0, 1] (by decide) rfl).pickG [0, 1, 2] rfl⟩))
 ·
  clear hA ac hW; intro D35 xs_ Hk_ w36 ac hS_ hJ_ hA hW
  obtain ⟨k, hpre_, hk_, rfl⟩ := hJ_
  have hke : k = (closeP wE wE.length).length := by have := congrArg List.length (hS_.symm.trans hpre_); simp at this; omega
  clear hpre_ hS_
  replace hW : Ws w No [Cel b24 #[vI .i64 (k : Int)] 3, DefR D35, OrdR n6 n7 n8 wE n9 n10 n11 n12 n13 n14 n15, Cel b3 #[vI .i64 0, vI .i64 6, vI .i64 0, vI .i64 0, vI .u32 0, vI .i64 0, vI .i64 0, vI .i64 0, vI .i64 0, vI .i64 1, vI .i64 2, vI .i64 0, vI .i64 0, vI .u32 0, vI .i64 0, vI .i64 0, vI .i64 0, vI .i64 0, vI .i64 1, vI .i64 5, vI .i64 0, vI .i64 0, vI .u32 0, vI .i64 0, vI .i64 0, vI .i64 0, vI .i64 0, vI .i64 0, vI .i64 3, vI .i64 0, vI .i64 0, vI .u32 0, vI .i64 0, vI .i64 0, vI .i64 0, vI .i64 0] 50, Cel b1 #[vB false] 4] [Cel b18 #[vS (some ⟨b16, 0, none⟩) 3 3] 68, Cel b16 #[vI .i64 0, vI .i64 2, vI .i64 1, vI .i64 2, vI .i64 0, vI .i64 3] 67, g23] w36 := hW
  refine blkN <| thenN <| wpIn_seq <| wpIn_region_lit <| sf_p (vI .i64 0) hA ?_; clear hA ac; intro ac hA
  refine sf_s hA (RunsF.of (Runs.callN (v := vI .i64 (0)) (fun _ => by kernel_rfl) hW (e_num (0) w36) ?_)); clear hA ac hW; intro w37 hW hfw37 ac hA
  refine sf_p (vB (((0) : Int) == (0 : Int))) hA fun ac hA => sf_p (vB (((0) : Int) == (0 : Int))) hA fun ac hA => ?_
  rcases Bool.eq_false_or_eq_true (((0) : Int) == (0 : Int)) with h38 | h38
  ·
   rw [h38] at hA
   have h38 := eq_of_beq h38
   first
   | (exfalso; clear hA hW; omega)
   | (exfalso; clear hA hW; exact absurd (h38.symm.trans hb2_) (by decide); done)
   | (exfalso; clear hA hW; exact absurd (h38.symm.trans hb1_) (by decide); done)
   | (exfalso; clear hA hW; exact absurd (h38.symm.trans hap_) (by decide); done)
   | (exfalso; clear hA hW; exact absurd hck_ (of_decide_eq_false h38); done)
   | (exfalso; clear hA hW; exact absurd hck_ h38; done)
   | (
    refine sf_q (vI .i64 (k : Int)) hA hW.cls (rl b24 0 0) fun ac hA => sf_p (vB ((k : Int) == (3 : Int))) hA fun ac hA => sf_p (vB ((k : Int) == (3 : Int))) hA fun ac hA => sf_p (vB ((k : Int) == (3 : Int))) hA fun ac hA => ?_
    rcases Bool.eq_false_or_eq_true ((k : Int) == (3 : Int)) with h39 | h39
    ·
     rw [h39] at hA
     have h39 := eq_of_beq h39
     first
     | (exfalso; clear hA hW; omega)
     | (exfalso; clear hA hW; exact absurd (h39.symm.trans hb2_) (by decide); done)
     | (exfalso; clear hA hW; exact absurd (h39.symm.trans hb1_) (by decide); done)
     | (exfalso; clear hA hW; exact absurd (h39.symm.trans hap_) (by decide); done)
     | (exfalso; clear hA hW; exact absurd hck_ (of_decide_eq_false h39); done)
     | (exfalso; clear hA hW; exact absurd hck_ h39; done)
     | (
      refine sf_p (pA n6 0) hA ?_; clear hA ac; intro ac hA
      refine sf_s hA (RunsF.of (Runs.callN (v := vB (befE wE (0) (2))) (fun _ => by kernel_rfl) hW (e_obefore n6 n7 n8 wE n9 n10 n11 n12 n13 n14 n15 (0) (2) w37 ((hW).get 2 rfl) ((hW).lt _ (List.mem_of_getElem? (i := 2) rfl)) (by first | decide | omega | assumption | (rw [hck_]; decide)) (by first | decide | omega | assumption | (rw [hck_]; decide)) (by first | decide | omega | assumption | (rw [hck_]; decide))) ?_)); clear hA ac hW; intro w40 hW hfw40 ac hA
      refine sf_p (vB (befE wE (0) (2))) hA fun ac hA => sf_p (vB (befE wE (0) (2))) hA fun ac hA => ?_
      rcases Bool.eq_false_or_eq_true (befE wE (0) (2)) with h41 | h41
      ·
       rw [h41] at hA
       first
       | (exfalso; clear hA hW; omega)
       | (exfalso; clear hA hW; exact absurd (h41.symm.trans hb2_) (by decide); done)
       | (exfalso; clear hA hW; exact absurd (h41.symm.trans hb1_) (by decide); done)
       | (exfalso; clear hA hW; exact absurd (h41.symm.trans hap_) (by decide); done)
       | (exfalso; clear hA hW; exact absurd hck_ (of_decide_eq_false h41); done)
       | (exfalso; clear hA hW; exact absurd hck_ h41; done)
       | (
        refine sf_p (pA n6 0) hA ?_; clear hA ac; intro ac hA
        refine sf_s hA (RunsF.of (Runs.callN (v := vB (befE wE (0) (1))) (fun _ => by kernel_rfl) hW (e_obefore n6 n7 n8 wE n9 n10 n11 n12 n13 n14 n15 (0) (1) w40 ((hW).get 2 rfl) ((hW).lt _ (List.mem_of_getElem? (i := 2) rfl)) (by first | decide | omega | assumption | (rw [hck_]; decide)) (by first | decide | omega | assumption | (rw [hck_]; decide)) (by first | decide | omega | assumption | (rw [hck_]; decide))) ?_)); clear hA ac hW; intro w42 hW hfw42 ac hA
        refine sf_p (vB (!(befE wE (0) (1)))) hA fun ac hA => sf_p (vB (!(befE wE (0) (1)))) hA fun ac hA => sf_p (vB (!(befE wE (0) (1)))) hA fun ac hA => ?_
        rcases Bool.eq_false_or_eq_true (!(befE wE (0) (1))) with h43 | h43
        ·
         rw [h43] at hA
         have h43 := not_t h43
         first
         | (exfalso; clear hA hW; omega)
         | (exfalso; clear hA hW; exact absurd (h43.symm.trans hb2_) (by decide); done)
         | (exfalso; clear hA hW; exact absurd (h43.symm.trans hb1_) (by decide); done)
         | (exfalso; clear hA hW; exact absurd (h43.symm.trans hap_) (by decide); done)
         | (exfalso; clear hA hW; exact absurd hck_ (of_decide_eq_false h43); done)
         | (exfalso; clear hA hW; exact absurd hck_ h43; done)
         | (
          refine sf_p (pA n6 0) hA ?_; clear hA ac; intro ac hA
          refine sf_s hA (RunsF.of (Runs.callN (v := vB (apartE wE (1) (3))) (fun _ => by kernel_rfl) hW (e_oapart n6 n7 n8 wE n9 n10 n11 n12 n13 n14 n15 (1) (3) w42 ((hW).get 2 rfl) ((hW).lt _ (List.mem_of_getElem? (i := 2) rfl)) (by first | decide | omega | assumption | (rw [hck_]; decide)) (by first | decide | omega | assumption | (rw [hck_]; decide)) (by first | decide | omega | assumption | (rw [hck_]; decide))) ?_)); clear hA ac hW; intro w44 hW hfw44 ac hA
          refine sf_p (vB (apartE wE (1) (3))) hA fun ac hA => sf_p (vB (apartE wE (1) (3))) hA fun ac hA => ?_
          rcases Bool.eq_false_or_eq_true (apartE wE (1) (3)) with h45 | h45
          ·
           rw [h45] at hA
           first
           | (exfalso; clear hA hW; omega)
           | (exfalso; clear hA hW; exact absurd (h45.symm.trans hb2_) (by decide); done)
           | (exfalso; clear hA hW; exact absurd (h45.symm.trans hb1_) (by decide); done)
           | (exfalso; clear hA hW; exact absurd (h45.symm.trans hap_) (by decide); done)
           | (exfalso; clear hA hW; exact absurd hck_ (of_decide_eq_false h45); done)
           | (exfalso; clear hA hW; exact absurd hck_ h45; done)
           | (
            refine sf_p (pA n6 0) hA ?_; clear hA ac; intro ac hA
            refine sf_s hA (RunsF.of (Runs.callRow (E := 51) (sz := 1) (en := enU8) (l := (clkE wE (2))) (fun _ => by kernel_rfl) hW (e_oclock n6 n7 n8 wE n9 n10 n11 n12 n13 n14 n15 (2) w44 ((hW).get 2 rfl) ((hW).lt _ (List.mem_of_getElem? (i := 2) rfl)) (by first | decide | omega | assumption | (rw [hck_]; decide)) (by first | decide | omega | assumption | (rw [hck_]; decide))) ?_)); clear hA ac hW; intro A47 c48 w46 hW hcc48 hfw46 ac hA
            refine sf_s hA (RunsF.of (Runs.cells (fun b => vS (some ⟨b, 0, none⟩) 2 2) #[vI .u64 1, vI .u64 2] 51 (fun _ => by kernel_rfl) hW ?_)); clear hA ac hW; intro b50 w51 hW hb50 hfw51 ac hA
            refine sf_s hA (RunsF.of (Runs.callN (v := vB (decide (clkE wE (2) = ([1, 2] : List Int)))) (fun _ => by kernel_rfl) hW (e_r4equal A47 c48 (clkE wE (2)) (some ⟨b50, 0, none⟩) 2 ([1, 2] : List Int) w51 (rowR_at ((hW).get 1 rfl) elt_U8.len) (own_cap ((hW).get 1 rfl)) (rowAt_cel ((hW).cel 0 rfl) ([1, 2] : List Int) (by rfl) elt_U8.len) (by first | assumption | omega | (simp; omega) | simp) (by first | decide | omega | assumption | (rw [hck_]; decide)) (by first | decide | omega | assumption | (rw [hck_]; decide))) ?_)); clear hA ac hW; intro w52 hW hfw52 ac hA
            refine sf_p (vB (decide (clkE wE (2) = ([1, 2] : List Int)))) hA ?_; clear hA ac; intro ac hA
            refine sf_s hA (RunsF.of (Runs.store (v := vB (decide (clkE wE (2) = ([1, 2] : List Int)))) (b := b1) (j := 0) (n := 1) (cs' := #[vB (decide (clkE wE (2) = ([1, 2] : List Int)))]) (H' := [Cel b50 #[vI .u64 1, vI .u64 2] 51, rowR 51 1 enU8 (vS A47 (clkE wE (2)).length c48) (clkE wE (2)), Cel b24 #[vI .i64 (k : Int)] 3, DefR D35, OrdR n6 n7 n8 wE n9 n10 n11 n12 n13 n14 n15, Cel b3 #[vI .i64 0, vI .i64 6, vI .i64 0, vI .i64 0, vI .u32 0, vI .i64 0, vI .i64 0, vI .i64 0, vI .i64 0, vI .i64 1, vI .i64 2, vI .i64 0, vI .i64 0, vI .u32 0, vI .i64 0, vI .i64 0, vI .i64 0, vI .i64 0, vI .i64 1, vI .i64 5, vI .i64 0, vI .i64 0, vI .u32 0, vI .i64 0, vI .i64 0, vI .i64 0, vI .i64 0, vI .i64 0, vI .i64 3, vI .i64 0, vI .i64 0, vI .u32 0, vI .i64 0, vI .i64 0, vI .i64 0, vI .i64 0] 50, Cel b1 #[vB (decide (clkE wE (2) = ([1, 2] : List Int)))] 4]) (by kernel_rfl) (by kernel_rfl) (by kernel_rfl) (by kernel_rfl) (by kernel_rfl) hW 6 (by rfl) (Nat.le_of_ble_eq_true (by kernel_rfl)) (by kernel_rfl) (by rfl) ?_)); clear hA ac hW; intro w53 hW ac hA
            refine wpListIn_nil <| thenN <| wpIn_ret <| retF (.inl rfl) hA <| leaveD (H' := [Cel b50 #[vI .u64 1, vI .u64 2] 51, rowR 51 1 enU8 (vS A47 (clkE wE (2)).length c48) (clkE wE (2)), Cel b24 #[vI .i64 (k : Int)] 3, OrdR n6 n7 n8 wE n9 n10 n11 n12 n13 n14 n15, Cel b3 #[vI .i64 0, vI .i64 6, vI .i64 0, vI .i64 0, vI .u32 0, vI .i64 0, vI .i64 0, vI .i64 0, vI .i64 0, vI .i64 1, vI .i64 2, vI .i64 0, vI .i64 0, vI .u32 0, vI .i64 0, vI .i64 0, vI .i64 0, vI .i64 0, vI .i64 1, vI .i64 5, vI .i64 0, vI .i64 0, vI .u32 0, vI .i64 0, vI .i64 0, vI .i64 0, vI .i64 0, vI .i64 0, vI .i64 3, vI .i64 0, vI .i64 0, vI .u32 0, vI .i64 0, vI .i64 0, vI .i64 0, vI .i64 0] 50, Cel b1 #[vB (decide (clkE wE (2) = ([1, 2] : List Int)))] 4]) hW 3 rfl rfl ?_; clear hW; intro w54 hW
            refine leave1 (v := vB (decide (clkE wE (2) = ([1, 2] : List Int)))) (by rfl) (GotF.cell (b := b1) (i := 0) hA (by kernel_rfl) (by kernel_rfl) (hW.cel 5 rfl) (by kernel_rfl)) ?_
            clear hA
            exact ⟨retv (by rfl), hW.fr⟩)
          rw [h45] at hA
          first
          | (exfalso; clear hA hW; omega)
          | (exfalso; clear hA hW; exact absurd (h45.symm.trans hb2_) (by decide); done)
          | (exfalso; clear hA hW; exact absurd (h45.symm.trans hb1_) (by decide); done)
          | (exfalso; clear hA hW; exact absurd (h45.symm.trans hap_) (by decide); done)
          | (exfalso; clear hA hW; exact absurd hck_ (of_decide_eq_false h45); done)
          | (exfalso; clear hA hW; exact absurd hck_ h45; done)
          | (
           fail))
        rw [h43] at hA
        have h43 := not_f h43
        first
        | (exfalso; clear hA hW; omega)
        | (exfalso; clear hA hW; exact absurd (h43.symm.trans hb2_) (by decide); done)
        | (exfalso; clear hA hW; exact absurd (h43.symm.trans hb1_) (by decide); done)
        | (exfalso; clear hA hW; exact absurd (h43.symm.trans hap_) (by decide); done)
        | (exfalso; clear hA hW; exact absurd hck_ (of_decide_eq_false h43); done)
        | (exfalso; clear hA hW; exact absurd hck_ h43; done)
        | (
         refine sf_k hA fun ac hA => sf_k hA fun ac hA => sf_p (vB false) hA fun ac hA => sf_p (vB false) hA fun ac hA => sf_k hA fun ac hA => sf_k hA fun ac hA => sf_k hA fun ac hA => sf_k hA fun ac hA => sf_p (vB false) hA fun ac hA => sf_s hA (RunsF.of (Runs.store (v := vB false) (b := b1) (j := 0) (n := 1) (cs' := #[vB false]) (H' := [Cel b24 #[vI .i64 (k : Int)] 3, DefR D35, OrdR n6 n7 n8 wE n9 n10 n11 n12 n13 n14 n15, Cel b3 #[vI .i64 0, vI .i64 6, vI .i64 0, vI .i64 0, vI .u32 0, vI .i64 0, vI .i64 0, vI .i64 0, vI .i64 0, vI .i64 1, vI .i64 2, vI .i64 0, vI .i64 0, vI .u32 0, vI .i64 0, vI .i64 0, vI .i64 0, vI .i64 0, vI .i64 1, vI .i64 5, vI .i64 0, vI .i64 0, vI .u32 0, vI .i64 0, vI .i64 0, vI .i64 0, vI .i64 0, vI .i64 0, vI .i64 3, vI .i64 0, vI .i64 0, vI .u32 0, vI .i64 0, vI .i64 0, vI .i64 0, vI .i64 0] 50, Cel b1 #[vB false] 4]) (by kernel_rfl) (by kernel_rfl) (by kernel_rfl) (by kernel_rfl) (by kernel_rfl) hW 4 (by rfl) (Nat.le_of_ble_eq_true (by kernel_rfl)) (by kernel_rfl) (by rfl) ?_)); clear hA ac hW; intro w55 hW ac hA
         refine wpListIn_nil <| thenN <| wpIn_ret <| retF (.inl rfl) hA <| leaveD (H' := [Cel b24 #[vI .i64 (k : Int)] 3, OrdR n6 n7 n8 wE n9 n10 n11 n12 n13 n14 n15, Cel b3 #[vI .i64 0, vI .i64 6, vI .i64 0, vI .i64 0, vI .u32 0, vI .i64 0, vI .i64 0, vI .i64 0, vI .i64 0, vI .i64 1, vI .i64 2, vI .i64 0, vI .i64 0, vI .u32 0, vI .i64 0, vI .i64 0, vI .i64 0, vI .i64 0, vI .i64 1, vI .i64 5, vI .i64 0, vI .i64 0, vI .u32 0, vI .i64 0, vI .i64 0, vI .i64 0, vI .i64 0, vI .i64 0, vI .i64 3, vI .i64 0, vI .i64 0, vI .u32 0, vI .i64 0, vI .i64 0, vI .i64 0, vI .i64 0] 50, Cel b1 #[vB false] 4]) hW 1 rfl rfl ?_; clear hW; intro w56 hW
         refine leave1 (v := vB false) (by rfl) (GotF.cell (b := b1) (i := 0) hA (by kernel_rfl) (by kernel_rfl) (hW.cel 3 rfl) (by kernel_rfl)) ?_
         clear hA
         exact ⟨retv (by rfl), hW.fr⟩))
      rw [h41] at hA
      first
      | (exfalso; clear hA hW; omega)
      | (exfalso; clear hA hW; exact absurd (h41.symm.trans hb2_) (by decide); done)
      | (exfalso; clear hA hW; exact absurd (h41.symm.trans hb1_) (by decide); done)
      | (exfalso; clear hA hW; exact absurd (h41.symm.trans hap_) (by decide); done)
      | (exfalso; clear hA hW; exact absurd hck_ (of_decide_eq_false h41); done)
      | (exfalso; clear hA hW; exact absurd hck_ h41; done)
      | (
       fail))
    rw [h39] at hA
    have h39 := ne_of_beq_false h39
    first
    | (exfalso; clear hA hW; omega)
    | (exfalso; clear hA hW; exact absurd (h39.symm.trans hb2_) (by decide); done)
    | (exfalso; clear hA hW; exact absurd (h39.symm.trans hb1_) (by decide); done)
    | (exfalso; clear hA hW; exact absurd (h39.symm.trans hap_) (by decide); done)
    | (exfalso; clear hA hW; exact absurd hck_ (of_decide_eq_false h39); done)
    | (exfalso; clear hA hW; exact absurd hck_ h39; done)
    | (
     fail))
  rw [h38] at hA
  have h38 := ne_of_beq_false h38
  first
  | (exfalso; clear hA hW; omega)
  | (exfalso; clear hA hW; exact absurd (h38.symm.trans hb2_) (by decide); done)
  | (exfalso; clear hA hW; exact absurd (h38.symm.trans hb1_) (by decide); done)
  | (exfalso; clear hA hW; exact absurd (h38.symm.trans hap_) (by decide); done)
  | (exfalso; clear hA hW; exact absurd hck_ (of_decide_eq_false h38); done)
  | (exfalso; clear hA hW; exact absurd hck_ h38; done)
  | (
   refine sf_k hA fun ac hA => sf_k hA fun ac hA => sf_p (vB false) hA fun ac hA => sf_p (vB false) hA fun ac hA => sf_k hA fun ac hA => sf_k hA fun ac hA => sf_p (vB false) hA fun ac hA => sf_p (vB false) hA fun ac hA => sf_k hA fun ac hA => sf_k hA fun ac hA => sf_k hA fun ac hA => sf_p (vB false) hA fun ac hA => sf_p (vB false) hA fun ac hA => sf_k hA fun ac hA => sf_k hA fun ac hA => sf_p (vB false) hA fun ac hA => sf_p (vB false) hA fun ac hA => sf_k hA fun ac hA => sf_k hA fun ac hA => sf_k hA fun ac hA => sf_k hA fun ac hA => sf_p (vB false) hA fun ac hA => sf_s hA (RunsF.of (Runs.store (v := vB false) (b := b1) (j := 0) (n := 1) (cs' := #[vB false]) (H' := [Cel b24 #[vI .i64 (k : Int)] 3, DefR D35, OrdR n6 n7 n8 wE n9 n10 n11 n12 n13 n14 n15, Cel b3 #[vI .i64 0, vI .i64 6, vI .i64 0, vI .i64 0, vI .u32 0, vI .i64 0, vI .i64 0, vI .i64 0, vI .i64 0, vI .i64 1, vI .i64 2, vI .i64 0, vI .i64 0, vI .u32 0, vI .i64 0, vI .i64 0, vI .i64 0, vI .i64 0, vI .i64 1, vI .i64 5, vI .i64 0, vI .i64 0, vI .u32 0, vI .i64 0, vI .i64 0, vI .i64 0, vI .i64 0, vI .i64 0, vI .i64 3, vI .i64 0, vI .i64 0, vI .u32 0, vI .i64 0, vI .i64 0, vI .i64 0, vI .i64 0] 50, Cel b1 #[vB false] 4]) (by kernel_rfl) (by kernel_rfl) (by kernel_rfl) (by kernel_rfl) (by kernel_rfl) hW 4 (by rfl) (Nat.le_of_ble_eq_true (by kernel_rfl)) (by kernel_rfl) (by rfl) ?_)); clear hA ac hW; intro w57 hW ac hA
   refine wpListIn_nil <| thenN <| wpIn_ret <| retF (.inl rfl) hA <| leaveD (H' := [Cel b24 #[vI .i64 (k : Int)] 3, OrdR n6 n7 n8 wE n9 n10 n11 n12 n13 n14 n15, Cel b3 #[vI .i64 0, vI .i64 6, vI .i64 0, vI .i64 0, vI .u32 0, vI .i64 0, vI .i64 0, vI .i64 0, vI .i64 0, vI .i64 1, vI .i64 2, vI .i64 0, vI .i64 0, vI .u32 0, vI .i64 0, vI .i64 0, vI .i64 0, vI .i64 0, vI .i64 1, vI .i64 5, vI .i64 0, vI .i64 0, vI .u32 0, vI .i64 0, vI .i64 0, vI .i64 0, vI .i64 0, vI .i64 0, vI .i64 3, vI .i64 0, vI .i64 0, vI .u32 0, vI .i64 0, vI .i64 0, vI .i64 0, vI .i64 0] 50, Cel b1 #[vB false] 4]) hW 1 rfl rfl ?_; clear hW; intro w58 hW
   refine leave1 (v := vB false) (by rfl) (GotF.cell (b := b1) (i := 0) hA (by kernel_rfl) (by kernel_rfl) (hW.cel 3 rfl) (by kernel_rfl)) ?_
   clear hA
   exact ⟨retv (by rfl), hW.fr⟩)
 ·
  clear hA ac hW; intro D59 c_ pre_ Hk_ w60 ac hJ_ hA hW
  exact hJ_.elim

end Go.Proofs.YtefmglgejjaipaaGreatDoor.L
