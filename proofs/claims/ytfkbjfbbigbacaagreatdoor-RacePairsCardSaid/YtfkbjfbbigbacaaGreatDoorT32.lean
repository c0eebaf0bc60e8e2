/- Contracts, walked by program over the engine's laws. -/
import Derived.Test.YtfkbjfbbigbacaaGreatDoorProg
import Derived.Test.YtfkbjfbbigbacaaGreatDoorT31
namespace Go.Proofs.YtfkbjfbbigbacaaGreatDoor.L
open Go.RowKit
open Go.Value renaming int → vI, slice → vS, bool → vB, pointer → vP, func → vF, agg → vA, map → vM, tuple → vT

set_option maxHeartbeats 4000000 in
set_option maxRecDepth 100000 in
theorem e_racePairs (A_l : Option Addr) (c_l : Nat) (l : List Event) (j : Int) (w : World) (hr_l : RowAt w A_l 9 enEvent l) (hc_l : l.length ≤ c_l) (hl : l.length ≤ 9223372036854775807) (hel : ∀ x ∈ l, (-9223372036854775808 ≤ x.kind ∧ x.kind ≤ 9223372036854775807) ∧ 0 ≤ x.addr ∧ x.addr ≤ 4294967295) (hj : -9223372036854775808 ≤ j ∧ j ≤ 9223372036854775807) : Calls Tryz.prog 7 #[vS A_l l.length c_l, vI .i64 j] w (fun e w' => e = .returned (vB true) ∧ Fr No w w') := by
 have _hu := hc_l; have _hv := hr_l; clear _hu _hv
 have _hu := hl; clear _hu
 have _hu := hel; clear _hu
 have _hu := hj; clear _hu
 refine enter_F 106 Tryz.func7 rfl rfl (by kernel_rfl) (L := [(0, vS A_l l.length c_l), (1, vI .i64 j)]) (by kernel_rfl) ?_
 intro ac hA
 have hW := Ws.start w No
 have hW := hW.arg hr_l
 refine wpIn_seq <| wpIn_region_lit <| stF hA (by kernel_rfl) (by kernel_rfl) (by kernel_rfl) (by kernel_rfl) (RunsF.of (Runs.cells (fun b => pA b 0) #[vB false] 4 (fun _ => by kernel_rfl) hW ?_)); clear hA ac hW; intro b1 w2 hW hb1 hfw2 ac hA
 refine wpListIn_nil <| thenN <| wpIn_seq <| wpIn_seq <| wpIn_region_lit <| st_rdF (v := vS A_l l.length c_l) hA (by kernel_rfl) (by kernel_rfl) (by kernel_rfl) (by kernel_rfl) hW.cls (Rd.pure fun _ => by kernel_rfl) ?_; clear hA ac; intro ac hA
 refine stF hA (by kernel_rfl) (by kernel_rfl) (by kernel_rfl) (by kernel_rfl) (RunsF.of (Runs.callN (v := vB (fewOk l (50))) (fun _ => by kernel_rfl) hW (e_lfew A_l c_l l (50) w2 ((hW).getG 0 rfl) (by first | assumption | omega | (simp; omega) | simp) hl hel (by decide) (by decide)) ?_)); clear hA ac hW; intro w3 hW hfw3 ac hA
 refine st_rdF (v := vB (!(fewOk l (50)))) hA (by kernel_rfl) (by kernel_rfl) (by kernel_rfl) (by kernel_rfl) hW.cls (Rd.pure fun _ => by kernel_rfl) ?_; clear hA ac; intro ac hA
 refine wpListIn_nil <| thenN <| wpIn_cond_split (t := !(fewOk l (50))) (hA.eval (by kernel_rfl)) (fun h4 => ?_) (fun h4 => ?_)
 ·
  have h4 := not_t h4
  refine wpIn_seq <| wpIn_region_lit <| stF hA (by kernel_rfl) (by kernel_rfl) (by kernel_rfl) (by kernel_rfl) (RunsF.of (Runs.callN (v := vB true) (fun _ => by kernel_rfl) hW (e_works w3) ?_)); clear hA ac hW; intro w5 hW hfw5 ac hA
  refine stF hA (by kernel_rfl) (by kernel_rfl) (by kernel_rfl) (by kernel_rfl) (RunsF.of (Runs.store (v := vB true) (b := b1) (j := 0) (n := 1) (cs' := #[vB true]) (H' := [Cel b1 #[vB true] 4]) (by kernel_rfl) (by kernel_rfl) (by kernel_rfl) (by kernel_rfl) (by kernel_rfl) hW 0 (by rfl) (Nat.le_of_ble_eq_true (by kernel_rfl)) (by kernel_rfl) (by rfl) ?_)); clear hA ac hW; intro w6 hW ac hA
  refine wpListIn_nil <| thenN <| wpIn_ret <| thenR <| retF (.inl rfl) hA <| leave1 (v := vB true) (by rfl) (GotF.cell (b := b1) (i := 0) hA (by kernel_rfl) (by kernel_rfl) (hW.cel 0 rfl) (by kernel_rfl)) ?_
  clear hA
  exact ⟨retv (by rfl), hW.fr⟩
 have h4 := not_f h4
 refine wpIn_skip <| thenN <| wpIn_seq ?_
 have hfl_ := few_len (show fewOk l 50 = true from h4)
 rcases Bool.eq_false_or_eq_true (decide (newOk l)) with h7 | h7
 ·
  have h7 := of_decide_eq_true h7
  have hfl_ := few_len (show fewOk l 50 = true from h4)
  have hfl_ := few_len (show fewOk l 50 = true from h4)
  refine wpIn_region_lit <| st_rdF (v := vS A_l l.length c_l) hA (by kernel_rfl) (by kernel_rfl) (by kernel_rfl) (by kernel_rfl) hW.cls (Rd.pure fun _ => by kernel_rfl) ?_; clear hA ac; intro ac hA
  refine stF hA (by kernel_rfl) (by kernel_rfl) (by kernel_rfl) (by kernel_rfl) (RunsF.of (Runs.call (fun _ => by kernel_rfl) (e_onew A_l c_l l w3 ((hW).getG 0 rfl) (by first | assumption | omega | (simp; omega) | simp) (by omega) (And.right (by assumption)) (fun x hx => (hel x hx).2)) ?_))
  rintro _ w8 ⟨n9, n10, n11, n12, n13, n14, n15, n16, n17, n18, rfl, hw8_hK, hu_⟩; refine ⟨_, rfl, ?_⟩; replace hW := hW.made hu_; clear hA ac; intro ac hA
  refine st_rdF (v := vT #[pA n9 0, vI .i64 0]) hA (by kernel_rfl) (by kernel_rfl) (by kernel_rfl) (by kernel_rfl) hW.cls (Rd.pure fun _ => by kernel_rfl) ?_; clear hA ac; intro ac hA
  refine st_rdF (v := pA n9 0) hA (by kernel_rfl) (by kernel_rfl) (by kernel_rfl) (by kernel_rfl) hW.cls (Rd.pure fun _ => by kernel_rfl) ?_; clear hA ac; intro ac hA
  refine st_rdF (v := vI .i64 0) hA (by kernel_rfl) (by kernel_rfl) (by kernel_rfl) (by kernel_rfl) hW.cls (Rd.pure fun _ => by kernel_rfl) ?_; clear hA ac; intro ac hA
  refine st_rdF (v := pA n9 0) hA (by kernel_rfl) (by kernel_rfl) (by kernel_rfl) (by kernel_rfl) hW.cls (Rd.pure fun _ => by kernel_rfl) ?_; clear hA ac; intro ac hA
  refine st_rdF (v := vI .i64 0) hA (by kernel_rfl) (by kernel_rfl) (by kernel_rfl) (by kernel_rfl) hW.cls (Rd.pure fun _ => by kernel_rfl) ?_; clear hA ac; intro ac hA
  refine wpListIn_nil <| thenN <| wpIn_seq ?_
  have hok := hw8_hK; have hev := hok.ev; have hlc_ := hok.clen; have hbg_ := race_lil (E := l) (by omega)
  refine wpIn_region_lit <| st_rdF (v := vS A_l l.length c_l) hA (by kernel_rfl) (by kernel_rfl) (by kernel_rfl) (by kernel_rfl) hW.cls (Rd.pure fun _ => by kernel_rfl) ?_; clear hA ac; intro ac hA
  refine stF hA (by kernel_rfl) (by kernel_rfl) (by kernel_rfl) (by kernel_rfl) (RunsF.of (Runs.call (fun _ => by kernel_rfl) (e_rnew A_l c_l l w8 ((hW).getG 0 rfl) (by first | assumption | omega | (simp; omega) | simp) (by omega) (And.right (by assumption)) hel) ?_))
  rintro _ w19 ⟨g20, AoL21, coL22, AoB23, coB24, rfl, hw19_hB, hccoL22, hccoB24, hkcoB24, hfcoL22, hfcoB24, hnfcoB24, hfw19⟩; refine ⟨_, rfl, ?_⟩; have hW0 := hW; have hW := hW0.call hfw19
  have hW := hW0.addFromAt hW hfcoL22 (in_cons (in_at 0 rfl) in_nil)
  have hW := hW0.addFromAt hW hfcoB24 (in_cons (in_at 0 rfl) in_nil)
  have hW := hW0.addFromAt hW hnfcoB24 (in_cons (in_at 0 rfl) in_nil)
  clear hW0 hA ac; intro ac hA
  refine st_rdF (v := vT #[vA #[vS AoL21 l.length coL22, vS AoB23 g20.length coB24], vI .i64 0]) hA (by kernel_rfl) (by kernel_rfl) (by kernel_rfl) (by kernel_rfl) hW.cls (Rd.pure fun _ => by kernel_rfl) ?_; clear hA ac; intro ac hA
  refine st_rdF (v := vA #[vS AoL21 l.length coL22, vS AoB23 g20.length coB24]) hA (by kernel_rfl) (by kernel_rfl) (by kernel_rfl) (by kernel_rfl) hW.cls (Rd.pure fun _ => by kernel_rfl) ?_; clear hA ac; intro ac hA
  refine st_rdF (v := vI .i64 0) hA (by kernel_rfl) (by kernel_rfl) (by kernel_rfl) (by kernel_rfl) hW.cls (Rd.pure fun _ => by kernel_rfl) ?_; clear hA ac; intro ac hA
  refine stF hA (by kernel_rfl) (by kernel_rfl) (by kernel_rfl) (by kernel_rfl) (RunsF.of (Runs.cells (fun b => pA b 0) #[vS none 0 0, vS none 0 0] 31 (fun _ => by kernel_rfl) hW ?_)); clear hA ac hW; intro b25 w26 hW hb25 hfw26 ac hA
  refine stF hA (by kernel_rfl) (by kernel_rfl) (by kernel_rfl) (by kernel_rfl) (RunsF.of (Runs.store (v := vA #[vS AoL21 l.length coL22, vS AoB23 g20.length coB24]) (b := b25) (j := 0) (n := 2) (cs' := #[vS AoL21 l.length coL22, vS AoB23 g20.length coB24]) (H' := [Cel b25 #[vS AoL21 l.length coL22, vS AoB23 g20.length coB24] 31, OrdR n9 n10 n11 l n12 n13 n14 n15 n16 n17 n18, Cel b1 #[vB false] 4]) (by kernel_rfl) (by kernel_rfl) (by kernel_rfl) (by kernel_rfl) (by kernel_rfl) hW 0 (by rfl) (Nat.le_of_ble_eq_true (by kernel_rfl)) (by kernel_rfl) (by rfl) ?_)); clear hA ac hW; intro w27 hW ac hA
  refine st_rdF (v := vI .i64 0) hA (by kernel_rfl) (by kernel_rfl) (by kernel_rfl) (by kernel_rfl) hW.cls (Rd.pure fun _ => by kernel_rfl) ?_; clear hA ac; intro ac hA
  refine wpListIn_nil <| thenN <| wpIn_seq <| wpIn_seq <| wpIn_region_lit <| st_rdF (v := vI .i64 0) hA (by kernel_rfl) (by kernel_rfl) (by kernel_rfl) (by kernel_rfl) hW.cls (Rd.pure fun _ => by kernel_rfl) ?_; clear hA ac; intro ac hA
  refine st_rdF (v := vB false) hA (by kernel_rfl) (by kernel_rfl) (by kernel_rfl) (by kernel_rfl) hW.cls (Rd.pure fun _ => by kernel_rfl) ?_; clear hA ac; intro ac hA
  refine wpListIn_nil <| thenN <| wpIn_cond_false (hA.eval (by kernel_rfl)) <| wpIn_skip <| thenN <| wpIn_seq ?_
  have hBr_ := hw19_hB; have hpl_ := pairL_len l; have hap_ := allP_len (pairL l); have hwl_ := withE_len l j
  refine wpIn_cut (fun ac_ wl_ => ∃ Ar7_2 : Option Addr, ∃ Ar7_5 : Option Addr, ∃ cr7_2 : Nat, ∃ cr7_5 : Nat, Fm 106 [] [(0, vS A_l l.length c_l), (4, pA b1 0), (5, pA n9 0), (6, vI .i64 0), (7, pA b25 0), (8, vI .i64 0), (9, vS Ar7_2 (withE l (j)).length cr7_2), (10, vS Ar7_5 (withE l (j)).length cr7_5), (18, vS A_l l.length c_l), (19, vB (fewOk l (50))), (20, vB (!(fewOk l (50)))), (22, vT #[pA n9 0, vI .i64 0]), (23, vS A_l l.length c_l), (24, vT #[pA n9 0, vI .i64 0]), (25, pA n9 0), (26, vI .i64 0), (27, vT #[vA #[vS AoL21 l.length coL22, vS AoB23 g20.length coB24], vI .i64 0]), (28, vS A_l l.length c_l), (29, vT #[vA #[vS AoL21 l.length coL22, vS AoB23 g20.length coB24], vI .i64 0]), (30, vA #[vS AoL21 l.length coL22, vS AoB23 g20.length coB24]), (31, vI .i64 0), (32, vI .i64 0), (33, vB false)] ac_ ∧ Ws w No [rowR 3 1 enI64 (vS Ar7_5 (withE l (j)).length cr7_5) (withE l (j)), rowR 3 1 enI64 (vS Ar7_2 (withE l (j)).length cr7_2) (withE l (j)), Cel b25 #[vS AoL21 l.length coL22, vS AoB23 g20.length coB24] 31, OrdR n9 n10 n11 l n12 n13 n14 n15 n16 n17 n18, Cel b1 #[vB false] 4] [nestR innerBV g20, roR AoB23 1 enBV g20, roR AoL21 9 enEvent l, roR A_l 9 enEvent l] wl_) ?_ ?_
  · refine sr_regionF (m := 8) (C := Ws w No [Cel b25 #[vS AoL21 l.length coL22, vS AoB23 g20.length coB24] 31, OrdR n9 n10 n11 l n12 n13 n14 n15 n16 n17 n18, Cel b1 #[vB false] 4] [nestR innerBV g20, roR AoB23 1 enBV g20, roR AoL21 9 enEvent l, roR A_l 9 enEvent l]) (fun i => [3].contains i) (fun i => [2, 3].contains i) (fun i => [0, 1, 4, 6, 7].contains i) (by kernel_rfl) (by kernel_rfl) (by kernel_rfl) (by kernel_rfl) (by kernel_rfl) (fun _ _ h => h) hW ?_; clear hW; intro w28 hW hfw28 hR; have hC : Ws w No [Cel b25 #[vS AoL21 l.length coL22, vS AoB23 g20.length coB24] 31, OrdR n9 n10 n11 l n12 n13 n14 n15 n16 n17 n18, Cel b1 #[vB false] 4] [nestR innerBV g20, roR AoB23 1 enBV g20, roR AoL21 9 enEvent l, roR A_l 9 enEvent l] w28 := hW.pick [0, 1, 2] (by decide) rfl
    refine sr_p 0 (pA n9 0) hR rfl hA fun ac hA => sr_p 1 (vI .i64 j) hR rfl hA fun ac hA => sr_t 3 (vA #[vS AoL21 l.length coL22, vS AoB23 g20.length coB24]) hR rfl hA hC (Rd.load (b := b25) (i := 0) (by kernel_rfl) (fun _ hw => (hw).cel 0 rfl) (by kernel_rfl)) fun ac hA => sr_p 4 (vI .i64 j) hR rfl hA fun ac hA => sr_one (i := 2) (by kernel_rfl) (sr_d rfl hA (Runs.callRow (E := 3) (sz := 1) (en := enI64) (l := (withE l (j))) (fun _ => by kernel_rfl) hW (e_rWith n9 n10 n11 l n12 n13 n14 n15 n16 n17 n18 (j) w28 ((hW).get 1 rfl) ((hW).lt _ (List.mem_of_getElem? (i := 1) rfl)) hok (by first | omega | decide | assumption | exact ⟨by omega, by omega⟩)) ?_)); clear hA ac hW; intro Ar7_2 cr7_2 w29 hW hccr7_2 hfw29 ac hA
    refine ⟨⟨fun _ => (hW.pick [1, 2, 3] (by decide) rfl).pickG [0, 1, 2, 3] rfl, fun h => absurd h (by decide)⟩, ?_⟩; have hC : Ws w No [Cel b25 #[vS AoL21 l.length coL22, vS AoB23 g20.length coB24] 31, OrdR n9 n10 n11 l n12 n13 n14 n15 n16 n17 n18, Cel b1 #[vB false] 4] [nestR innerBV g20, roR AoB23 1 enBV g20, roR AoL21 9 enEvent l, roR A_l 9 enEvent l] w29 := (hW.pick [1, 2, 3] (by decide) rfl).pickG [0, 1, 2, 3] rfl
    refine sr_one (i := 5) (by kernel_rfl) (sr_d rfl hA (Runs.callRow (E := 3) (sz := 1) (en := enI64) (l := (withE l (j))) (fun _ => by kernel_rfl) hW (e_r21with AoL21 coL22 l AoB23 coB24 g20 (j) w29 ((hW).getG 2 rfl) (by first | assumption | omega | (simp; omega) | simp) ((hW).getG 1 rfl) (by first | assumption | omega | (simp; omega) | simp) ((hW).getG 0 rfl) hkcoB24 (by omega) hev hBr_ (by omega) (by first | omega | decide | assumption | exact ⟨by omega, by omega⟩)) ?_)); clear hA ac hW; intro Ar7_5 cr7_5 w30 hW hccr7_5 hfw30 ac hA
    refine qn <| sr_p 6 (vS Ar7_2 (withE l (j)).length cr7_2) hR rfl hA fun ac hA => sr_p 7 (vS Ar7_5 (withE l (j)).length cr7_5) hR rfl hA fun ac hA => sr_done (by kernel_rfl) ?_ _
    exact ⟨Ar7_2, Ar7_5, cr7_2, cr7_5, hA.sub (by and_intros <;> first | kernel_rfl | trivial), (hW.pick [0, 1, 2, 3, 4] (by decide) rfl).pickG [0, 1, 2, 3] rfl⟩
  clear hA ac hW; rintro ac w31 ⟨Ar7_2, Ar7_5, cr7_2, cr7_5, hA, hW⟩
  refine thenN <| wpIn_seq <| wpIn_seq <| wpIn_region_lit <| st_rdF (v := vS Ar7_2 (withE l (j)).length cr7_2) hA (by kernel_rfl) (by kernel_rfl) (by kernel_rfl) (by kernel_rfl) hW.cls (Rd.pure fun _ => by kernel_rfl) ?_; clear hA ac; intro ac hA
  refine st_rdF (v := vI .i64 (((withE l (j)).length : Nat) : Int)) hA (by kernel_rfl) (by kernel_rfl) (by kernel_rfl) (by kernel_rfl) hW.cls (Rd.pure fun _ => by kernel_rfl) ?_; clear hA ac; intro ac hA
  refine st_rdF (v := vS Ar7_5 (withE l (j)).length cr7_5) hA (by kernel_rfl) (by kernel_rfl) (by kernel_rfl) (by kernel_rfl) hW.cls (Rd.pure fun _ => by kernel_rfl) ?_; clear hA ac; intro ac hA
  refine st_rdF (v := vI .i64 (((withE l (j)).length : Nat) : Int)) hA (by kernel_rfl) (by kernel_rfl) (by kernel_rfl) (by kernel_rfl) hW.cls (Rd.pure fun _ => by kernel_rfl) ?_; clear hA ac; intro ac hA
  refine st_rdF (v := vB (((((withE l (j)).length : Nat) : Int) : Int) != ((((withE l (j)).length : Nat) : Int) : Int))) hA (by kernel_rfl) (by kernel_rfl) (by kernel_rfl) (by kernel_rfl) hW.cls (Rd.pure fun _ => by kernel_rfl) ?_; clear hA ac; intro ac hA
  refine wpListIn_nil <| thenN <| wpIn_cond_split (t := ((((withE l (j)).length : Nat) : Int) : Int) != ((((withE l (j)).length : Nat) : Int) : Int)) (hA.eval (by kernel_rfl)) (fun h32 => ?_) (fun h32 => ?_)
  ·
   have h32 := bne_iff_ne.1 h32
   exfalso; clear hA hW; omega
  have h32 := of_bne_f h32
  refine wpIn_skip <| thenN <| wpIn_seq <| wpIn_seq <| wpIn_region_lit <| st_rdF (v := vI .i64 0) hA (by kernel_rfl) (by kernel_rfl) (by kernel_rfl) (by kernel_rfl) hW.cls (Rd.pure fun _ => by kernel_rfl) ?_; clear hA ac; intro ac hA
  refine wpListIn_nil <| thenN <| wpIn_block <| wpIn_loop_m (fun m_ ac_ wl_ => ∃ i : Nat, m_ = (withE l j).length - i ∧ (i ≤ (withE l j).length) ∧ Fm 106 [] [(4, pA b1 0), (5, pA n9 0), (7, pA b25 0), (9, vS Ar7_2 (withE l (j)).length cr7_2), (10, vS Ar7_5 (withE l (j)).length cr7_5), (11, vI .i64 (i : Int))] ac_ ∧ Ws w No [rowR 3 1 enI64 (vS Ar7_5 (withE l (j)).length cr7_5) (withE l (j)), rowR 3 1 enI64 (vS Ar7_2 (withE l (j)).length cr7_2) (withE l (j)), Cel b25 #[vS AoL21 l.length coL22, vS AoB23 g20.length coB24] 31, OrdR n9 n10 n11 l n12 n13 n14 n15 n16 n17 n18, Cel b1 #[vB false] 4] [nestR innerBV g20, roR AoB23 1 enBV g20, roR AoL21 9 enEvent l, roR A_l 9 enEvent l] wl_) _ ⟨0, rfl, by omega, hA.sub (by and_intros <;> first | kernel_rfl | trivial), (hW.pick [0, 1, 2, 3, 4] (by decide) rfl).pickG [0, 1, 2, 3] rfl⟩ ?_
  clear hA ac hW; rintro m_ ac w33 ⟨i, rfl, hi, hA, hW⟩
  refine wpIn_seq <| wpIn_seq <| wpIn_region_lit <| st_rdF (v := vI .i64 (i : Int)) hA (by kernel_rfl) (by kernel_rfl) (by kernel_rfl) (by kernel_rfl) hW.cls (Rd.pure fun _ => by kernel_rfl) ?_; clear hA ac; intro ac hA
  refine st_rdF (v := vS Ar7_2 (withE l (j)).length cr7_2) hA (by kernel_rfl) (by kernel_rfl) (by kernel_rfl) (by kernel_rfl) hW.cls (Rd.pure fun _ => by kernel_rfl) ?_; clear hA ac; intro ac hA
  refine st_rdF (v := vI .i64 (((withE l (j)).length : Nat) : Int)) hA (by kernel_rfl) (by kernel_rfl) (by kernel_rfl) (by kernel_rfl) hW.cls (Rd.pure fun _ => by kernel_rfl) ?_; clear hA ac; intro ac hA
  refine st_rdF (v := vB (decide ((i : Int) < ((((withE l (j)).length : Nat) : Int) : Int)))) hA (by kernel_rfl) (by kernel_rfl) (by kernel_rfl) (by kernel_rfl) hW.cls (Rd.pure fun _ => by kernel_rfl) ?_; clear hA ac; intro ac hA
  refine wpListIn_nil <| thenN <| wpIn_cond_split (t := decide ((i : Int) < ((((withE l (j)).length : Nat) : Int) : Int))) (hA.eval (by kernel_rfl)) (fun h34 => ?_) (fun h34 => ?_)
  ·
   have h34 := of_decide_eq_true h34
   refine wpIn_skip <| thenN <| wpIn_seq <| wpIn_block <| wpIn_seq ?_
   obtain ⟨y35, hy35⟩ : ∃ y, (withE l (j))[i]? = some y := ⟨_, List.getElem?_eq_getElem (by omega)⟩
   obtain ⟨b36, o37, rfl, hbb36⟩ := row_some (rowR_at ((hW).get 1 rfl) elt_I64.len) hy35
   obtain ⟨b38, o39, rfl, hbb38⟩ := row_some (rowR_at ((hW).get 0 rfl) elt_I64.len) hy35
   refine q_regionF (by kernel_rfl) (by kernel_rfl) (by kernel_rfl) hW <| sq_p (vS (some ⟨b36, o37, none⟩) (withE l (j)).length cr7_2) hA fun ac hA => sq_p (vI .i64 (i : Int)) hA fun ac hA => sq_q (vP (some ⟨b36, o37 + i * 1, none⟩)) hA (Rd.indexAddr (e := 3) (sz := 1) (b := b36) (off := o37) (n := (withE l (j)).length) (c := cr7_2) (k := i) (by kernel_rfl) (by kernel_rfl) (by first | omega | (simp; done) | (simp; omega)) (fun _ => by kernel_rfl) (fun _ => by kernel_rfl)) fun ac hA => sq_q (vI .i64 y35) hA (Rd.loadRow (b := b36) (i := o37 + i * 1) (xs := [vI .i64 y35]) (by kernel_rfl) (fun _ hw => row_ld (rowR_at ((hw.1).get 1 rfl) elt_I64.len) hy35 (Fr.refl No _) (fun h => h) 0 1 (by kernel_rfl)) (by kernel_rfl)) fun ac hA => sq_p (vS (some ⟨b38, o39, none⟩) (withE l (j)).length cr7_5) hA fun ac hA => sq_p (vI .i64 (i : Int)) hA fun ac hA => sq_q (vP (some ⟨b38, o39 + i * 1, none⟩)) hA (Rd.indexAddr (e := 3) (sz := 1) (b := b38) (off := o39) (n := (withE l (j)).length) (c := cr7_5) (k := i) (by kernel_rfl) (by kernel_rfl) (by first | omega | (simp; done) | (simp; omega)) (fun _ => by kernel_rfl) (fun _ => by kernel_rfl)) fun ac hA => sq_q (vI .i64 y35) hA (Rd.loadRow (b := b38) (i := o39 + i * 1) (xs := [vI .i64 y35]) (by kernel_rfl) (fun _ hw => row_ld (rowR_at ((hw.1).get 0 rfl) elt_I64.len) hy35 (Fr.refl No _) (fun h => h) 0 1 (by kernel_rfl)) (by kernel_rfl)) fun ac hA => sq_p (vB ((y35 : Int) != (y35 : Int))) hA fun ac hA => sq_nil ?_; intro w40 hww40; have hW := hww40.1; have hfw40 := hww40.2; clear hww40
   refine thenN <| wpIn_cond_split (t := (y35 : Int) != (y35 : Int)) (hA.eval (by kernel_rfl)) (fun h41 => ?_) (fun h41 => ?_)
   ·
    have h41 := bne_iff_ne.1 h41
    exfalso; clear hA hW; omega
   have h41 := of_bne_f h41
   refine wpIn_skip <| blkN <| thenN <| wpIn_region_lit <| st_rdF (v := vI .i64 (i : Int)) hA (by kernel_rfl) (by kernel_rfl) (by kernel_rfl) (by kernel_rfl) hW.cls (Rd.pure fun _ => by kernel_rfl) ?_; clear hA ac; intro ac hA
   refine st_rdF (v := vI .i64 ((i + 1 : Nat) : Int)) hA (by kernel_rfl) (by kernel_rfl) (by kernel_rfl) (by kernel_rfl) hW.cls (Rd.pureE (v0 := vI .i64 (IntKind.i64.wrap ((i : Int) + 1))) (fun _ => by kernel_rfl) (congrArg (vI .i64) ((w_i64 (x := (i : Int) + 1) (by omega) (by omega)).trans (by omega)))) ?_; clear hA ac; intro ac hA
   refine st_rdF (v := vI .i64 ((i + 1 : Nat) : Int)) hA (by kernel_rfl) (by kernel_rfl) (by kernel_rfl) (by kernel_rfl) hW.cls (Rd.pure fun _ => by kernel_rfl) ?_; clear hA ac; intro ac hA
   refine wpListIn_nil <| thenN ?_
   exact ⟨(withE l j).length - (i + 1), by omega, i + 1, rfl, by omega, hA.sub (by and_intros <;> first | kernel_rfl | trivial), (hW.pick [0, 1, 2, 3, 4] (by decide) rfl).pickG [0, 1, 2, 3] rfl⟩
  have h34 := of_decide_eq_false h34
  refine wpIn_exit <| thenX <| thenX <| blkX <| thenN <| wpIn_seq <| wpIn_cut (fun ac_ wl_ => ∃ Aor15_3 : Option Addr, ∃ br15_4 : Nat, ∃ cor15_3 : Nat, ∃ n0r15_1 : Nat, ∃ n1r15_1 : Nat, ((allP (pairL l)).length ≤ cor15_3) ∧ Fm 106 [] [(4, pA b1 0), (5, pA n9 0), (7, pA b25 0), (9, vS Ar7_2 (withE l (j)).length cr7_2), (10, vS Ar7_5 (withE l (j)).length cr7_5), (11, vI .i64 (i : Int)), (12, pA n0r15_1 0), (13, pA br15_4 0), (52, vI .i64 (i : Int)), (53, vS Ar7_2 (withE l (j)).length cr7_2), (54, vI .i64 (((withE l (j)).length : Nat) : Int)), (55, vB (decide ((i : Int) < ((((withE l (j)).length : Nat) : Int) : Int))))] ac_ ∧ Ws w No [Cel br15_4 #[vS Aor15_3 (allP (pairL l)).length cor15_3] 73, PairsR n0r15_1 n1r15_1 (cntM (pairL l)), rowR 3 1 enI64 (vS Ar7_5 (withE l (j)).length cr7_5) (withE l (j)), rowR 3 1 enI64 (vS Ar7_2 (withE l (j)).length cr7_2) (withE l (j)), Cel b25 #[vS AoL21 l.length coL22, vS AoB23 g20.length coB24] 31, OrdR n9 n10 n11 l n12 n13 n14 n15 n16 n17 n18, Cel b1 #[vB false] 4] [roR Aor15_3 4 enPair (allP (pairL l)), nestR innerBV g20, roR AoB23 1 enBV g20, roR AoL21 9 enEvent l, roR A_l 9 enEvent l] wl_) ?_ ?_
  · refine sr_regionF (m := 7) (C := Ws w No [rowR 3 1 enI64 (vS Ar7_5 (withE l (j)).length cr7_5) (withE l (j)), rowR 3 1 enI64 (vS Ar7_2 (withE l (j)).length cr7_2) (withE l (j)), Cel b25 #[vS AoL21 l.length coL22, vS AoB23 g20.length coB24] 31, OrdR n9 n10 n11 l n12 n13 n14 n15 n16 n17 n18, Cel b1 #[vB false] 4] [nestR innerBV g20, roR AoB23 1 enBV g20, roR AoL21 9 enEvent l, roR A_l 9 enEvent l]) (fun i => [2].contains i) (fun i => [1, 2, 4].contains i) (fun i => [0, 5].contains i) (by kernel_rfl) (by kernel_rfl) (by kernel_rfl) (by kernel_rfl) (by kernel_rfl) (fun _ _ h => h) hW ?_; clear hW; intro w42 hW hfw42 hR; have hC : Ws w No [rowR 3 1 enI64 (vS Ar7_5 (withE l (j)).length cr7_5) (withE l (j)), rowR 3 1 enI64 (vS Ar7_2 (withE l (j)).length cr7_2) (withE l (j)), Cel b25 #[vS AoL21 l.length coL22, vS AoB23 g20.length coB24] 31, OrdR n9 n10 n11 l n12 n13 n14 n15 n16 n17 n18, Cel b1 #[vB false] 4] [nestR innerBV g20, roR AoB23 1 enBV g20, roR AoL21 9 enEvent l, roR A_l 9 enEvent l] w42 := hW.pick [0, 1, 2, 3, 4] (by decide) rfl
    refine sr_p 0 (pA n9 0) hR rfl hA fun ac hA => sr_t 2 (vA #[vS AoL21 l.length coL22, vS AoB23 g20.length coB24]) hR rfl hA hC (Rd.load (b := b25) (i := 0) (by kernel_rfl) (fun _ hw => (hw).cel 2 rfl) (by kernel_rfl)) fun ac hA => sr_two (i := 1) (j := 4) (by kernel_rfl) ?_ ?_
    ·
     refine (sr_d rfl hA (Runs.call (fun _ => by kernel_rfl) (e_rPairs n9 n10 n11 l n12 n13 n14 n15 n16 n17 n18 w42 ((hW).get 3 rfl) ((hW).lt _ (List.mem_of_getElem? (i := 3) rfl)) hok (by omega)) ?_))
     rintro _ w43 ⟨n0r15_1, n1r15_1, rfl, hu_⟩; refine ⟨_, rfl, ?_⟩; replace hW := hW.made hu_; clear hA ac; intro ac hA
     refine ⟨⟨fun _ => (hW.pick [1, 2, 3, 4, 5] (by decide) rfl).pickG [0, 1, 2, 3] rfl, fun h => absurd h (by decide)⟩, ?_⟩; have hC : Ws w No [rowR 3 1 enI64 (vS Ar7_5 (withE l (j)).length cr7_5) (withE l (j)), rowR 3 1 enI64 (vS Ar7_2 (withE l (j)).length cr7_2) (withE l (j)), Cel b25 #[vS AoL21 l.length coL22, vS AoB23 g20.length coB24] 31, OrdR n9 n10 n11 l n12 n13 n14 n15 n16 n17 n18, Cel b1 #[vB false] 4] [nestR innerBV g20, roR AoB23 1 enBV g20, roR AoL21 9 enEvent l, roR A_l 9 enEvent l] w43 := (hW.pick [1, 2, 3, 4, 5] (by decide) rfl).pickG [0, 1, 2, 3] rfl
     refine sr_two (i := 3) (j := 4) (by kernel_rfl) ?_ ?_
     ·
      refine (sr_d rfl hA (Runs.call (fun _ => by kernel_rfl) (e_r21pairs AoL21 coL22 l AoB23 coB24 g20 w43 ((hW).getG 2 rfl) (by first | assumption | omega | (simp; omega) | simp) ((hW).getG 1 rfl) (by first | assumption | omega | (simp; omega) | simp) ((hW).getG 0 rfl) hkcoB24 (by omega) hev hBr_ (by omega)) ?_))
      rintro _ w44 ⟨Aor15_3, cor15_3, rfl, hccor15_3, hfcor15_3, hfw44⟩; refine ⟨_, rfl, ?_⟩; have hW0 := hW; have hW := hW0.call hfw44
      have hW := hW0.addFromAt hW hfcor15_3 (in_cons (in_at 2 rfl) (in_cons (in_at 1 rfl) (in_cons (in_at 0 rfl) in_nil)))
      clear hW0 hA ac; intro ac hA
      refine qn <| sr_one (i := 4) (by kernel_rfl) (sr_d rfl hA (Runs.cells (fun b => pA b 0) #[vS none 0 0] 73 (fun _ => by kernel_rfl) hW ?_)); clear hA ac hW; intro br15_4 w45 hW hbr15_4 hfw45 ac hA
      refine ⟨⟨fun _ => (hW.pick [2, 3, 4, 5, 6] (by decide) rfl).pickG [1, 2, 3, 4] rfl, fun h => absurd h (by decide)⟩, ?_⟩; have hC : Ws w No [rowR 3 1 enI64 (vS Ar7_5 (withE l (j)).length cr7_5) (withE l (j)), rowR 3 1 enI64 (vS Ar7_2 (withE l (j)).length cr7_2) (withE l (j)), Cel b25 #[vS AoL21 l.length coL22, vS AoB23 g20.length coB24] 31, OrdR n9 n10 n11 l n12 n13 n14 n15 n16 n17 n18, Cel b1 #[vB false] 4] [nestR innerBV g20, roR AoB23 1 enBV g20, roR AoL21 9 enEvent l, roR A_l 9 enEvent l] w45 := (hW.pick [2, 3, 4, 5, 6] (by decide) rfl).pickG [1, 2, 3, 4] rfl
      refine sr_p 5 (pA n0r15_1 0) hR rfl hA ?_; clear hA ac; intro ac hA
      refine sr_one (i := 6) (by kernel_rfl) (sr_d rfl hA (Runs.store (v := vS Aor15_3 (allP (pairL l)).length cor15_3) (b := br15_4) (j := 0) (n := 1) (cs' := #[vS Aor15_3 (allP (pairL l)).length cor15_3]) (H' := [Cel br15_4 #[vS Aor15_3 (allP (pairL l)).length cor15_3] 73, PairsR n0r15_1 n1r15_1 (cntM (pairL l)), rowR 3 1 enI64 (vS Ar7_5 (withE l (j)).length cr7_5) (withE l (j)), rowR 3 1 enI64 (vS Ar7_2 (withE l (j)).length cr7_2) (withE l (j)), Cel b25 #[vS AoL21 l.length coL22, vS AoB23 g20.length coB24] 31, OrdR n9 n10 n11 l n12 n13 n14 n15 n16 n17 n18, Cel b1 #[vB false] 4]) (by kernel_rfl) (by kernel_rfl) (by kernel_rfl) (by kernel_rfl) (by kernel_rfl) hW 0 (by rfl) (Nat.le_of_ble_eq_true (by kernel_rfl)) (by kernel_rfl) (by rfl) ?_)); clear hA ac hW; intro w46 hW ac hA
      refine qn <| sr_done (by kernel_rfl) ?_ _
      exact ⟨Aor15_3, br15_4, cor15_3, n0r15_1, n1r15_1, hccor15_3, hA.sub (by and_intros <;> first | kernel_rfl | trivial), (hW.pick [0, 1, 2, 3, 4, 5, 6] (by decide) rfl).pickG [0, 1, 2, 3, 4] rfl⟩
     ·
      refine (sr_d rfl hA (Runs.cells (fun b => pA b 0) #[vS none 0 0] 73 (fun _ => by kernel_rfl) hW ?_)); clear hA ac hW; intro br15_4 w47 hW hbr15_4 hfw47 ac hA
      refine ⟨⟨fun _ => (hW.pick [2, 3, 4, 5, 6] (by decide) rfl).pickG [0, 1, 2, 3] rfl, fun h => absurd h (by decide)⟩, ?_⟩; have hC : Ws w No [rowR 3 1 enI64 (vS Ar7_5 (withE l (j)).length cr7_5) (withE l (j)), rowR 3 1 enI64 (vS Ar7_2 (withE l (j)).length cr7_2) (withE l (j)), Cel b25 #[vS AoL21 l.length coL22, vS AoB23 g20.length coB24] 31, OrdR n9 n10 n11 l n12 n13 n14 n15 n16 n17 n18, Cel b1 #[vB false] 4] [nestR innerBV g20, roR AoB23 1 enBV g20, roR AoL21 9 enEvent l, roR A_l 9 enEvent l] w47 := (hW.pick [2, 3, 4, 5, 6] (by decide) rfl).pickG [0, 1, 2, 3] rfl
      refine sr_one (i := 3) (by kernel_rfl) (sr_d rfl hA (Runs.call (fun _ => by kernel_rfl) (e_r21pairs AoL21 coL22 l AoB23 coB24 g20 w47 ((hW).getG 2 rfl) (by first | assumption | omega | (simp; omega) | simp) ((hW).getG 1 rfl) (by first | assumption | omega | (simp; omega) | simp) ((hW).getG 0 rfl) hkcoB24 (by omega) hev hBr_ (by omega)) ?_))
      rintro _ w48 ⟨Aor15_3, cor15_3, rfl, hccor15_3, hfcor15_3, hfw48⟩; refine ⟨_, rfl, ?_⟩; have hW0 := hW; have hW := hW0.call hfw48
      have hW := hW0.addFromAt hW hfcor15_3 (in_cons (in_at 2 rfl) (in_cons (in_at 1 rfl) (in_cons (in_at 0 rfl) in_nil)))
      clear hW0 hA ac; intro ac hA
      refine qn <| sr_p 5 (pA n0r15_1 0) hR rfl hA ?_; clear hA ac; intro ac hA
      refine sr_one (i := 6) (by kernel_rfl) (sr_d rfl hA (Runs.store (v := vS Aor15_3 (allP (pairL l)).length cor15_3) (b := br15_4) (j := 0) (n := 1) (cs' := #[vS Aor15_3 (allP (pairL l)).length cor15_3]) (H' := [Cel br15_4 #[vS Aor15_3 (allP (pairL l)).length cor15_3] 73, PairsR n0r15_1 n1r15_1 (cntM (pairL l)), rowR 3 1 enI64 (vS Ar7_5 (withE l (j)).length cr7_5) (withE l (j)), rowR 3 1 enI64 (vS Ar7_2 (withE l (j)).length cr7_2) (withE l (j)), Cel b25 #[vS AoL21 l.length coL22, vS AoB23 g20.length coB24] 31, OrdR n9 n10 n11 l n12 n13 n14 n15 n16 n17 n18, Cel b1 #[vB false] 4]) (by kernel_rfl) (by kernel_rfl) (by kernel_rfl) (by kernel_rfl) (by kernel_rfl) hW 0 (by rfl) (Nat.le_of_ble_eq_true (by kernel_rfl)) (by kernel_rfl) (by rfl) ?_)); clear hA ac hW; intro w49 hW ac hA
      refine qn <| sr_done (by kernel_rfl) ?_ _
      exact ⟨Aor15_3, br15_4, cor15_3, n0r15_1, n1r15_1, hccor15_3, hA.sub (by and_intros <;> first | kernel_rfl | trivial), (hW.pick [0, 1, 2, 3, 4, 5, 6] (by decide) rfl).pickG [0, 1, 2, 3, 4] rfl⟩
    ·
     refine (sr_d rfl hA (Runs.cells (fun b => pA b 0) #[vS none 0 0] 73 (fun _ => by kernel_rfl) hW ?_)); clear hA ac hW; intro br15_4 w50 hW hbr15_4 hfw50 ac hA
     refine ⟨⟨fun _ => (hW.pick [1, 2, 3, 4, 5] (by decide) rfl).pickG [0, 1, 2, 3] rfl, fun h => absurd h (by decide)⟩, ?_⟩; have hC : Ws w No [rowR 3 1 enI64 (vS Ar7_5 (withE l (j)).length cr7_5) (withE l (j)), rowR 3 1 enI64 (vS Ar7_2 (withE l (j)).length cr7_2) (withE l (j)), Cel b25 #[vS AoL21 l.length coL22, vS AoB23 g20.length coB24] 31, OrdR n9 n10 n11 l n12 n13 n14 n15 n16 n17 n18, Cel b1 #[vB false] 4] [nestR innerBV g20, roR AoB23 1 enBV g20, roR AoL21 9 enEvent l, roR A_l 9 enEvent l] w50 := (hW.pick [1, 2, 3, 4, 5] (by decide) rfl).pickG [0, 1, 2, 3] rfl
     refine sr_one (i := 1) (by kernel_rfl) (sr_d rfl hA (Runs.call (fun _ => by kernel_rfl) (e_rPairs n9 n10 n11 l n12 n13 n14 n15 n16 n17 n18 w50 ((hW).get 4 rfl) ((hW).lt _ (List.mem_of_getElem? (i := 4) rfl)) hok (by omega)) ?_))
     rintro _ w51 ⟨n0r15_1, n1r15_1, rfl, hu_⟩; refine ⟨_, rfl, ?_⟩; replace hW := hW.made hu_; clear hA ac; intro ac hA
     refine ⟨⟨fun _ => (hW.pick [2, 3, 4, 5, 6] (by decide) rfl).pickG [0, 1, 2, 3] rfl, fun h => absurd h (by decide)⟩, ?_⟩; have hC : Ws w No [rowR 3 1 enI64 (vS Ar7_5 (withE l (j)).length cr7_5) (withE l (j)), rowR 3 1 enI64 (vS Ar7_2 (withE l (j)).length cr7_2) (withE l (j)), Cel b25 #[vS AoL21 l.length coL22, vS AoB23 g20.length coB24] 31, OrdR n9 n10 n11 l n12 n13 n14 n15 n16 n17 n18, Cel b1 #[vB false] 4] [nestR innerBV g20, roR AoB23 1 enBV g20, roR AoL21 9 enEvent l, roR A_l 9 enEvent l] w51 := (hW.pick [2, 3, 4, 5, 6] (by decide) rfl).pickG [0, 1, 2, 3] rfl
     refine sr_one (i := 3) (by kernel_rfl) (sr_d rfl hA (Runs.call (fun _ => by kernel_rfl) (e_r21pairs AoL21 coL22 l AoB23 coB24 g20 w51 ((hW).getG 2 rfl) (by first | assumption | omega | (simp; omega) | simp) ((hW).getG 1 rfl) (by first | assumption | omega | (simp; omega) | simp) ((hW).getG 0 rfl) hkcoB24 (by omega) hev hBr_ (by omega)) ?_))
     rintro _ w52 ⟨Aor15_3, cor15_3, rfl, hccor15_3, hfcor15_3, hfw52⟩; refine ⟨_, rfl, ?_⟩; have hW0 := hW; have hW := hW0.call hfw52
     have hW := hW0.addFromAt hW hfcor15_3 (in_cons (in_at 2 rfl) (in_cons (in_at 1 rfl) (in_cons (in_at 0 rfl) in_nil)))
     clear hW0 hA ac; intro ac hA
     refine qn <| sr_p 5 (pA n0r15_1 0) hR rfl hA ?_; clear hA ac; intro ac hA
     refine sr_one (i := 6) (by kernel_rfl) (sr_d rfl hA (Runs.store (v := vS Aor15_3 (allP (pairL l)).length cor15_3) (b := br15_4) (j := 0) (n := 1) (cs' := #[vS Aor15_3 (allP (pairL l)).length cor15_3]) (H' := [PairsR n0r15_1 n1r15_1 (cntM (pairL l)), Cel br15_4 #[vS Aor15_3 (allP (pairL l)).length cor15_3] 73, rowR 3 1 enI64 (vS Ar7_5 (withE l (j)).length cr7_5) (withE l (j)), rowR 3 1 enI64 (vS Ar7_2 (withE l (j)).length cr7_2) (withE l (j)), Cel b25 #[vS AoL21 l.length coL22, vS AoB23 g20.length coB24] 31, OrdR n9 n10 n11 l n12 n13 n14 n15 n16 n17 n18, Cel b1 #[vB false] 4]) (by kernel_rfl) (by kernel_rfl) (by kernel_rfl) (by kernel_rfl) (by kernel_rfl) hW 1 (by rfl) (Nat.le_of_ble_eq_true (by kernel_rfl)) (by kernel_rfl) (by rfl) ?_)); clear hA ac hW; intro w53 hW ac hA
     refine qn <| sr_done (by kernel_rfl) ?_ _
     exact ⟨Aor15_3, br15_4, cor15_3, n0r15_1, n1r15_1, hccor15_3, hA.sub (by and_intros <;> first | kernel_rfl | trivial), (hW.pick [1, 0, 2, 3, 4, 5, 6] (by decide) rfl).pickG [0, 1, 2, 3, 4] rfl⟩
  clear hA ac hW; rintro ac w54 ⟨Aor15_3, br15_4, cor15_3, n0r15_1, n1r15_1, hccor15_3, hA, hW⟩
  refine thenN <| wpIn_seq <| wpIn_region_lit <| st_rdF (v := pA n0r15_1 0) hA (by kernel_rfl) (by kernel_rfl) (by kernel_rfl) (by kernel_rfl) hW.cls (Rd.pure fun _ => by kernel_rfl) ?_; clear hA ac; intro ac hA
  refine stF hA (by kernel_rfl) (by kernel_rfl) (by kernel_rfl) (by kernel_rfl) (RunsF.of (Runs.call (fun _ => by kernel_rfl) (e_pall n0r15_1 n1r15_1 (pairL l) w54 ((hW).get 1 rfl) ((hW).lt _ (List.mem_of_getElem? (i := 1) rfl)) (by first | omega | decide | assumption | exact ⟨by omega, by omega⟩)) ?_))
  rintro _ w55 ⟨lb56, g57, rfl, hIg57, hfg57, hfw55⟩; refine ⟨_, rfl, ?_⟩; have hW0 := hW; have hW := hW0.call hfw55; have hW := hW0.addFromAt hW hfg57 in_nil; clear hW0 hA ac; intro ac hA
  refine st_rdF (v := vF (.func 50) #[] lb56) hA (by kernel_rfl) (by kernel_rfl) (by kernel_rfl) (by kernel_rfl) hW.cls (Rd.pure fun _ => by kernel_rfl) ?_; clear hA ac; intro ac hA
  refine wpListIn_nil <| thenN <| wpIn_seq <| wpIn_seq <| q_regionF (by kernel_rfl) (by kernel_rfl) (by kernel_rfl) hW <| sq_p (vF (.func 50) #[] lb56) hA fun ac hA => sq_p (vB false) hA fun ac hA => sq_p (vB false) hA fun ac hA => sq_p (pA n0r15_1 0) hA fun ac hA => sq_call (v := vI .i64 (((allP (pairL l)).length : Nat) : Int)) hA (by kernel_rfl) (by kernel_rfl) (by kernel_rfl) (fun _ => by kernel_rfl) (Cls.callNC fun wx hwx => e_splenC n0r15_1 n1r15_1 (pairL l) wx ((hwx.1).get 1 rfl) ((hwx.1).lt _ (List.mem_of_getElem? (i := 1) rfl))) ?_; clear hA ac; intro ac hA
  refine sq_q (vS Aor15_3 (allP (pairL l)).length cor15_3) hA (rl br15_4 0 0) fun ac hA => sq_p (vI .i64 (((allP (pairL l)).length : Nat) : Int)) hA fun ac hA => sq_p (vB (((((allP (pairL l)).length : Nat) : Int) : Int) != ((((allP (pairL l)).length : Nat) : Int) : Int))) hA fun ac hA => sq_p (vB (((((allP (pairL l)).length : Nat) : Int) : Int) != ((((allP (pairL l)).length : Nat) : Int) : Int))) hA fun ac hA => sq_nil ?_; intro w58 hww58; have hW := hww58.1; have hfw58 := hww58.2; clear hww58
  refine thenN <| wpIn_cond_split (t := ((((allP (pairL l)).length : Nat) : Int) : Int) != ((((allP (pairL l)).length : Nat) : Int) : Int)) (hA.eval (by kernel_rfl)) (fun h59 => ?_) (fun h59 => ?_)
  ·
   have h59 := bne_iff_ne.1 h59
   exfalso; clear hA hW; omega
  have h59 := of_bne_f h59
  refine wpIn_skip <| thenN <| wpIn_seq <| wpIn_region_lit <| stF hA (by kernel_rfl) (by kernel_rfl) (by kernel_rfl) (by kernel_rfl) (RunsF.of (Runs.cells (fun b => pA b 0) #[vI .i64 0] 3 (fun _ => by kernel_rfl) hW ?_)); clear hA ac hW; intro b60 w61 hW hb60 hfw61 ac hA
  refine stF hA (by kernel_rfl) (by kernel_rfl) (by kernel_rfl) (by kernel_rfl) (RunsF.of (Runs.store (v := vI .i64 0) (b := b60) (j := 0) (n := 1) (cs' := #[vI .i64 0]) (H' := [Cel b60 #[vI .i64 0] 3, Cel br15_4 #[vS Aor15_3 (allP (pairL l)).length cor15_3] 73, PairsR n0r15_1 n1r15_1 (cntM (pairL l)), rowR 3 1 enI64 (vS Ar7_5 (withE l (j)).length cr7_5) (withE l (j)), rowR 3 1 enI64 (vS Ar7_2 (withE l (j)).length cr7_2) (withE l (j)), Cel b25 #[vS AoL21 l.length coL22, vS AoB23 g20.length coB24] 31, OrdR n9 n10 n11 l n12 n13 n14 n15 n16 n17 n18, Cel b1 #[vB false] 4]) (by kernel_rfl) (by kernel_rfl) (by kernel_rfl) (by kernel_rfl) (by kernel_rfl) hW 0 (by rfl) (Nat.le_of_ble_eq_true (by kernel_rfl)) (by kernel_rfl) (by rfl) ?_)); clear hA ac hW; intro w62 hW ac hA
  refine wpListIn_nil <| thenN <| wpIn_seq <| wpIn_seq <| wpIn_region_lit <| st_rdF (v := vF (.func 50) #[] lb56) hA (by kernel_rfl) (by kernel_rfl) (by kernel_rfl) (by kernel_rfl) hW.cls (Rd.pure fun _ => by kernel_rfl) ?_; clear hA ac; intro ac hA
  refine wpListIn_nil <| thenN <| wpIn_block ?_
  have hW := hW.share 1 rfl (H' := [Cel b60 #[vI .i64 0] 3, PairsR n0r15_1 n1r15_1 (cntM (pairL l)), rowR 3 1 enI64 (vS Ar7_5 (withE l (j)).length cr7_5) (withE l (j)), rowR 3 1 enI64 (vS Ar7_2 (withE l (j)).length cr7_2) (withE l (j)), Cel b25 #[vS AoL21 l.length coL22, vS AoB23 g20.length coB24] 31, OrdR n9 n10 n11 l n12 n13 n14 n15 n16 n17 n18, Cel b1 #[vB false] 4]) rfl
  refine wp_range (encs := (fun x_ : Pair × Nat => #[vI .i64 ((x_.2 : Nat) : Int), x_.1.v])) (Sx := (· = (allP (pairL l)).zipIdx)) hA (by kernel_rfl) (by kernel_rfl) (enters_of Tryz.func50 (by kernel_rfl) rfl) (by kernel_rfl) (fun _ => rfl) hIg57 (List.forall_mem_singleton.2 (List.mem_of_getElem? (i := 1) rfl)) (fun pre_ H_ => ∃ k : Nat, pre_ = (allP (pairL l)).zipIdx.take k ∧ k ≤ (allP (pairL l)).length ∧ H_ = [Cel b60 #[vI .i64 (k : Int)] 3]) (fun _ _ _ => False) (H := [Cel b60 #[vI .i64 0] 3]) (K := [PairsR n0r15_1 n1r15_1 (cntM (pairL l)), rowR 3 1 enI64 (vS Ar7_5 (withE l (j)).length cr7_5) (withE l (j)), rowR 3 1 enI64 (vS Ar7_2 (withE l (j)).length cr7_2) (withE l (j)), Cel b25 #[vS AoL21 l.length coL22, vS AoB23 g20.length coB24] 31, OrdR n9 n10 n11 l n12 n13 n14 n15 n16 n17 n18, Cel b1 #[vB false] 4]) (hW.pick [0, 1, 2, 3, 4, 5, 6] (by decide) rfl) ⟨0, rfl, Nat.zero_le _, rfl⟩ ?_ ?_ ?_
  ·
   clear hA ac hW; intro l_63 rd_63 bs_63 pre_ x_ Hk_ w64 T_63 ac hrd_63 hbs_63 hbr_63 hok_ hJ_ hA hW hB_63 hT_63
   obtain ⟨k, rfl, hk_, rfl⟩ := hJ_
   obtain ⟨y65, rfl, hy65, hlty65, hsny65⟩ := comes_zip hok_ hk_
   replace hA : Fm 106 [] [(4, pA b1 0), (5, pA n9 0), (7, pA b25 0), (9, vS Ar7_2 (withE l (j)).length cr7_2), (10, vS Ar7_5 (withE l (j)).length cr7_5), (11, vI .i64 (i : Int)), (12, pA n0r15_1 0), (13, pA br15_4 0), (14, vF (.func 50) #[] lb56), (15, pA b60 0), (52, vI .i64 (i : Int)), (53, vS Ar7_2 (withE l (j)).length cr7_2), (54, vI .i64 (((withE l (j)).length : Nat) : Int)), (55, vB (decide ((i : Int) < ((((withE l (j)).length : Nat) : Int) : Int)))), (71, pA n0r15_1 0), (72, vF (.func 50) #[] lb56), (73, vF (.func 50) #[] lb56), (74, vB false), (75, vB false), (76, pA n0r15_1 0), (77, vI .i64 (((allP (pairL l)).length : Nat) : Int)), (78, vS Aor15_3 (allP (pairL l)).length cor15_3), (79, vI .i64 (((allP (pairL l)).length : Nat) : Int)), (80, vB (((((allP (pairL l)).length : Nat) : Int) : Int) != ((((allP (pairL l)).length : Nat) : Int) : Int))), (81, vB (((((allP (pairL l)).length : Nat) : Int) : Int) != ((((allP (pairL l)).length : Nat) : Int) : Int))), (82, vF (.func 50) #[] lb56), (83, vI .i64 (k : Int)), (84, y65.v)] ac := hA.sub (by and_intros <;> first | kernel_rfl | trivial)
   refine wpIn_region_lit <| stF hA (by kernel_rfl) (by kernel_rfl) (by kernel_rfl) (by kernel_rfl) (RunsF.of (Runs.cells (fun b => pA b 0) #[vI .i64 0, vI .i64 0, vI .i64 0, vI .i64 0] 45 (fun _ => by kernel_rfl) hW ?_)); clear hA ac hW; intro b66 w67 hW hb66 hfw67 ac hA
   refine stF hA (by kernel_rfl) (by kernel_rfl) (by kernel_rfl) (by kernel_rfl) (RunsF.of (Runs.store (v := y65.v) (b := b66) (j := 0) (n := 4) (cs' := #[vI .i64 y65.a.f, vI .i64 y65.a.pc, vI .i64 y65.b.f, vI .i64 y65.b.pc]) (H' := [Cel b66 #[vI .i64 y65.a.f, vI .i64 y65.a.pc, vI .i64 y65.b.f, vI .i64 y65.b.pc] 45, rd_63, Cel b60 #[vI .i64 (k : Int)] 3]) (by kernel_rfl) (by kernel_rfl) (by kernel_rfl) (by kernel_rfl) (by kernel_rfl) hW 0 (by rfl) (Nat.le_of_ble_eq_true (by kernel_rfl)) (by kernel_rfl) (by rfl) ?_)); clear hA ac hW; intro w68 hW ac hA
   refine wpListIn_nil <| thenN <| begun (bs := bs_63) (H' := [Cel b66 #[vI .i64 y65.a.f, vI .i64 y65.a.pc, vI .i64 y65.b.f, vI .i64 y65.b.pc] 45, bs_63, Cel b60 #[vI .i64 (k : Int)] 3]) hW 1 rfl (fun b hb => by rw [hbs_63] at hb; rw [hrd_63]; exact hb) rfl ?_; clear hW; intro w69 hW
   refine wpIn_block <| wpIn_seq <| wpIn_seq ?_
   obtain ⟨b70, o71, rfl, hbb70⟩ := row_some ((hW).getG 2 rfl) hy65
   refine q_regionF (by kernel_rfl) (by kernel_rfl) (by kernel_rfl) hW <| sq_q (vI .i64 (k : Int)) hA (rl b60 0 2) fun ac hA => sq_q (vS (some ⟨b70, o71, none⟩) (allP (pairL l)).length cor15_3) hA (Rd.load (b := br15_4) (i := 0) (by kernel_rfl) (fun _ hw => show _ = _ from (hw.1).getG 0 rfl) (by kernel_rfl)) fun ac hA => sq_p (vI .i64 (((allP (pairL l)).length : Nat) : Int)) hA fun ac hA => sq_p (vB (decide ((k : Int) ≥ ((((allP (pairL l)).length : Nat) : Int) : Int)))) hA fun ac hA => sq_p (vB (decide ((k : Int) ≥ ((((allP (pairL l)).length : Nat) : Int) : Int)))) hA fun ac hA => ?_
   rcases Bool.eq_false_or_eq_true (decide ((k : Int) ≥ ((((allP (pairL l)).length : Nat) : Int) : Int))) with h72 | h72
   ·
    rw [h72] at hA
    have h72 := of_decide_eq_true h72
    exfalso; clear hA hW; omega
   rw [h72] at hA
   have h72 := of_decide_eq_false h72
   refine sq_q (vA #[vI .i64 y65.a.f, vI .i64 y65.a.pc, vI .i64 y65.b.f, vI .i64 y65.b.pc]) hA (rl b66 0 0) fun ac hA => sq_q (vS (some ⟨b70, o71, none⟩) (allP (pairL l)).length cor15_3) hA (Rd.load (b := br15_4) (i := 0) (by kernel_rfl) (fun _ hw => show _ = _ from (hw.1).getG 0 rfl) (by kernel_rfl)) fun ac hA => sq_q (vI .i64 (k : Int)) hA (rl b60 0 2) fun ac hA => sq_q (vP (some ⟨b70, o71 + k * 4, none⟩)) hA (Rd.indexAddr (e := 45) (sz := 4) (b := b70) (off := o71) (n := (allP (pairL l)).length) (c := cor15_3) (k := k) (by kernel_rfl) (by kernel_rfl) (by first | omega | (simp; done) | (simp; omega)) (fun _ => by kernel_rfl) (fun _ => by kernel_rfl)) fun ac hA => sq_q (vA #[vI .i64 y65.a.f, vI .i64 y65.a.pc, vI .i64 y65.b.f, vI .i64 y65.b.pc]) hA (Rd.loadRow (b := b70) (i := o71 + k * 4) (xs := [vI .i64 y65.a.f, vI .i64 y65.a.pc, vI .i64 y65.b.f, vI .i64 y65.b.pc]) (by kernel_rfl) (fun _ hw => row_ld ((hw.1).getG 2 rfl) hy65 (Fr.refl No _) (fun h => h) 0 4 (by kernel_rfl)) (by kernel_rfl)) fun ac hA => sq_q (vB (!decide (y65 = y65))) hA (Rd.neS (u := y65.v) (v := y65.v) (by kernel_rfl) (by kernel_rfl) rfl rfl (by kernel_rfl) (fun w => eq_Pair w y65 y65)) fun ac hA => sq_p (vB (!decide (y65 = y65))) hA fun ac hA => sq_nil ?_; intro w74 hww74; have hW := hww74.1; have hfw74 := hww74.2; clear hww74
   refine thenN <| wpIn_cond_split (t := !decide (y65 = y65)) (hA.eval (by kernel_rfl)) (fun h75 => ?_) (fun h75 => ?_)
   ·
    have h75 := not_t h75
    have h75 := of_decide_eq_false h75
    have h75e := fun e => h75 ((Pair.eqi _ _).2 e)
    exfalso; clear hA hW; exact h75 rfl
   have h75 := not_f h75
   have h75 := of_decide_eq_true h75
   have h75e := (Pair.eqi _ _).1 h75
   refine wpIn_skip <| thenN <| wpIn_region_lit <| st_rdF (v := vI .i64 (k : Int)) hA (by kernel_rfl) (by kernel_rfl) (by kernel_rfl) (by kernel_rfl) hW.cls (rl b60 0 2) ?_; clear hA ac; intro ac hA
   refine st_rdF (v := vI .i64 ((k + 1 : Nat) : Int)) hA (by kernel_rfl) (by kernel_rfl) (by kernel_rfl) (by kernel_rfl) hW.cls (Rd.pureE (v0 := vI .i64 (IntKind.i64.wrap ((k : Int) + 1))) (fun _ => by kernel_rfl) (congrArg (vI .i64) ((w_i64 (x := (k : Int) + 1) (by omega) (by omega)).trans (by omega)))) ?_; clear hA ac; intro ac hA
   refine stF hA (by kernel_rfl) (by kernel_rfl) (by kernel_rfl) (by kernel_rfl) (RunsF.of (Runs.store (v := vI .i64 ((k + 1 : Nat) : Int)) (b := b60) (j := 0) (n := 1) (cs' := #[vI .i64 ((k + 1 : Nat) : Int)]) (H' := [Cel b66 #[vI .i64 y65.a.f, vI .i64 y65.a.pc, vI .i64 y65.b.f, vI .i64 y65.b.pc] 45, bs_63, Cel b60 #[vI .i64 ((k + 1 : Nat) : Int)] 3]) (by kernel_rfl) (by kernel_rfl) (by kernel_rfl) (by kernel_rfl) (by kernel_rfl) hW 2 (by rfl) (Nat.le_of_ble_eq_true (by kernel_rfl)) (by kernel_rfl) (by rfl) ?_)); clear hA ac hW; intro w76 hW ac hA
   refine wpListIn_nil <| blkN ?_
   exact ⟨_, ⟨k + 1, hsny65, hlty65, rfl⟩, (hW.pick [1, 2] (by decide) rfl).pickG [0, 1, 2, 3, 4, 5, 6] rfl⟩
  ·
   clear hA ac hW; intro D77 xs_ Hk_ w78 ac hS_ hJ_ hA hW
   obtain ⟨k, hpre_, hk_, rfl⟩ := hJ_
   have hke : k = (allP (pairL l)).length := by have := congrArg List.length (hS_.symm.trans hpre_); simp at this; omega
   clear hpre_ hS_
   replace hW : Ws w No [Cel b60 #[vI .i64 (k : Int)] 3, DefR D77, PairsR n0r15_1 n1r15_1 (cntM (pairL l)), rowR 3 1 enI64 (vS Ar7_5 (withE l (j)).length cr7_5) (withE l (j)), rowR 3 1 enI64 (vS Ar7_2 (withE l (j)).length cr7_2) (withE l (j)), Cel b25 #[vS AoL21 l.length coL22, vS AoB23 g20.length coB24] 31, OrdR n9 n10 n11 l n12 n13 n14 n15 n16 n17 n18, Cel b1 #[vB false] 4] [Cel br15_4 #[vS Aor15_3 (allP (pairL l)).length cor15_3] 73, g57, roR Aor15_3 4 enPair (allP (pairL l)), nestR innerBV g20, roR AoB23 1 enBV g20, roR AoL21 9 enEvent l, roR A_l 9 enEvent l] w78 := hW
   refine blkN <| thenN <| wpIn_seq <| wpIn_region_lit <| st_rdF (v := vI .i64 (k : Int)) hA (by kernel_rfl) (by kernel_rfl) (by kernel_rfl) (by kernel_rfl) hW.cls (rl b60 0 0) ?_; clear hA ac; intro ac hA
   refine st_rdF (v := vS Aor15_3 (allP (pairL l)).length cor15_3) hA (by kernel_rfl) (by kernel_rfl) (by kernel_rfl) (by kernel_rfl) hW.cls (Rd.load (b := br15_4) (i := 0) (by kernel_rfl) (fun _ hw => show _ = _ from (hw.1).getG 0 rfl) (by kernel_rfl)) ?_; clear hA ac; intro ac hA
   refine st_rdF (v := vI .i64 (((allP (pairL l)).length : Nat) : Int)) hA (by kernel_rfl) (by kernel_rfl) (by kernel_rfl) (by kernel_rfl) hW.cls (Rd.pure fun _ => by kernel_rfl) ?_; clear hA ac; intro ac hA
   refine st_rdF (v := vB ((k : Int) == ((((allP (pairL l)).length : Nat) : Int) : Int))) hA (by kernel_rfl) (by kernel_rfl) (by kernel_rfl) (by kernel_rfl) hW.cls (Rd.pure fun _ => by kernel_rfl) ?_; clear hA ac; intro ac hA
   refine st_rdF (v := vB ((k : Int) == ((((allP (pairL l)).length : Nat) : Int) : Int))) hA (by kernel_rfl) (by kernel_rfl) (by kernel_rfl) (by kernel_rfl) hW.cls (Rd.pure fun _ => by kernel_rfl) ?_; clear hA ac; intro ac hA
   rcases Bool.eq_false_or_eq_true ((k : Int) == ((((allP (pairL l)).length : Nat) : Int) : Int)) with h79 | h79
   ·
    rw [h79] at hA
    have h79 := eq_of_beq h79
    refine stF hA (by kernel_rfl) (by kernel_rfl) (by kernel_rfl) (by kernel_rfl) (RunsF.of (Runs.callN (v := vB true) (fun _ => by kernel_rfl) hW (e_works w78) ?_)); clear hA ac hW; intro w80 hW hfw80 ac hA
    refine st_rdF (v := vB true) hA (by kernel_rfl) (by kernel_rfl) (by kernel_rfl) (by kernel_rfl) hW.cls (Rd.pure fun _ => by kernel_rfl) ?_; clear hA ac; intro ac hA
    refine stF hA (by kernel_rfl) (by kernel_rfl) (by kernel_rfl) (by kernel_rfl) (RunsF.of (Runs.store (v := vB true) (b := b1) (j := 0) (n := 1) (cs' := #[vB true]) (H' := [Cel b60 #[vI .i64 (k : Int)] 3, DefR D77, PairsR n0r15_1 n1r15_1 (cntM (pairL l)), rowR 3 1 enI64 (vS Ar7_5 (withE l (j)).length cr7_5) (withE l (j)), rowR 3 1 enI64 (vS Ar7_2 (withE l (j)).length cr7_2) (withE l (j)), Cel b25 #[vS AoL21 l.length coL22, vS AoB23 g20.length coB24] 31, OrdR n9 n10 n11 l n12 n13 n14 n15 n16 n17 n18, Cel b1 #[vB true] 4]) (by kernel_rfl) (by kernel_rfl) (by kernel_rfl) (by kernel_rfl) (by kernel_rfl) hW 7 (by rfl) (Nat.le_of_ble_eq_true (by kernel_rfl)) (by kernel_rfl) (by rfl) ?_)); clear hA ac hW; intro w81 hW ac hA
    refine wpListIn_nil <| thenN <| wpIn_ret <| retF (.inl rfl) hA <| leaveD (H' := [Cel b60 #[vI .i64 (k : Int)] 3, PairsR n0r15_1 n1r15_1 (cntM (pairL l)), rowR 3 1 enI64 (vS Ar7_5 (withE l (j)).length cr7_5) (withE l (j)), rowR 3 1 enI64 (vS Ar7_2 (withE l (j)).length cr7_2) (withE l (j)), Cel b25 #[vS AoL21 l.length coL22, vS AoB23 g20.length coB24] 31, OrdR n9 n10 n11 l n12 n13 n14 n15 n16 n17 n18, Cel b1 #[vB true] 4]) hW 1 rfl rfl ?_; clear hW; intro w82 hW
    refine leave1 (v := vB true) (by rfl) (GotF.cell (b := b1) (i := 0) hA (by kernel_rfl) (by kernel_rfl) (hW.cel 6 rfl) (by kernel_rfl)) ?_
    clear hA
    exact ⟨retv (by rfl), hW.fr⟩
   rw [h79] at hA
   have h79 := ne_of_beq_false h79
   exfalso; clear hA hW; omega
  ·
   clear hA ac hW; intro D85 c_ pre_ Hk_ w86 ac hJ_ hA hW
   exact hJ_.elim
 have h7 := of_decide_eq_false h7
 have hfl_ := few_len (show fewOk l 50 = true from h4)
 have hfl_ := few_len (show fewOk l 50 = true from h4)
 refine wpIn_region_lit <| st_rdF (v := vS A_l l.length c_l) hA (by kernel_rfl) (by kernel_rfl) (by kernel_rfl) (by kernel_rfl) hW.cls (Rd.pure fun _ => by kernel_rfl) ?_; clear hA ac; intro ac hA
 refine stF hA (by kernel_rfl) (by kernel_rfl) (by kernel_rfl) (by kernel_rfl) (RunsF.of (Runs.callN (v := vT #[vP none, vI .i64 (newErr l)]) (fun _ => by kernel_rfl) hW (e_onewB A_l c_l l w3 ((hW).getG 0 rfl) (by first | assumption | omega | (simp; omega) | simp) (by assumption) (fun x hx => (hel x hx).2)) ?_)); clear hA ac hW; intro w87 hW hfw87 ac hA
 refine st_rdF (v := vT #[vP none, vI .i64 (newErr l)]) hA (by kernel_rfl) (by kernel_rfl) (by kernel_rfl) (by kernel_rfl) hW.cls (Rd.pure fun _ => by kernel_rfl) ?_; clear hA ac; intro ac hA
 refine st_rdF (v := vP none) hA (by kernel_rfl) (by kernel_rfl) (by kernel_rfl) (by kernel_rfl) hW.cls (Rd.pure fun _ => by kernel_rfl) ?_; clear hA ac; intro ac hA
 refine st_rdF (v := vI .i64 (newErr l)) hA (by kernel_rfl) (by kernel_rfl) (by kernel_rfl) (by kernel_rfl) hW.cls (Rd.pure fun _ => by kernel_rfl) ?_; clear hA ac; intro ac hA
 refine st_rdF (v := vP none) hA (by kernel_rfl) (by kernel_rfl) (by kernel_rfl) (by kernel_rfl) hW.cls (Rd.pure fun _ => by kernel_rfl) ?_; clear hA ac; intro ac hA
 refine st_rdF (v := vI .i64 (newErr l)) hA (by kernel_rfl) (by kernel_rfl) (by kernel_rfl) (by kernel_rfl) hW.cls (Rd.pure fun _ => by kernel_rfl) ?_; clear hA ac; intro ac hA
 refine wpListIn_nil <| thenN <| wpIn_seq ?_
 have hne_ := newErr_rng l
 refine wpIn_region_lit <| st_rdF (v := vS A_l l.length c_l) hA (by kernel_rfl) (by kernel_rfl) (by kernel_rfl) (by kernel_rfl) hW.cls (Rd.pure fun _ => by kernel_rfl) ?_; clear hA ac; intro ac hA
 refine stF hA (by kernel_rfl) (by kernel_rfl) (by kernel_rfl) (by kernel_rfl) (RunsF.of (Runs.callN (v := vT #[vA #[vS none 0 0, vS none 0 0], vI .i64 (newErr l)]) (fun _ => by kernel_rfl) hW (e_rnewB A_l c_l l w87 ((hW).getG 0 rfl) (by first | assumption | omega | (simp; omega) | simp) (by assumption) hl hel) ?_)); clear hA ac hW; intro w88 hW hfw88 ac hA
 refine st_rdF (v := vT #[vA #[vS none 0 0, vS none 0 0], vI .i64 (newErr l)]) hA (by kernel_rfl) (by kernel_rfl) (by kernel_rfl) (by kernel_rfl) hW.cls (Rd.pure fun _ => by kernel_rfl) ?_; clear hA ac; intro ac hA
 refine st_rdF (v := vA #[vS none 0 0, vS none 0 0]) hA (by kernel_rfl) (by kernel_rfl) (by kernel_rfl) (by kernel_rfl) hW.cls (Rd.pure fun _ => by kernel_rfl) ?_; clear hA ac; intro ac hA
 refine st_rdF (v := vI .i64 (newErr l)) hA (by kernel_rfl) (by kernel_rfl) (by kernel_rfl) (by kernel_rfl) hW.cls (Rd.pure fun _ => by kernel_rfl) ?_; clear hA ac; intro ac hA
 refine stF hA (by kernel_rfl) (by kernel_rfl) (by kernel_rfl) (by kernel_rfl) (RunsF.of (Runs.cells (fun b => pA b 0) #[vS none 0 0, vS none 0 0] 31 (fun _ => by kernel_rfl) hW ?_)); clear hA ac hW; intro b89 w90 hW hb89 hfw90 ac hA
 refine stF hA (by kernel_rfl) (by kernel_rfl) (by kernel_rfl) (by kernel_rfl) (RunsF.of (Runs.store (v := vA #[vS none 0 0, vS none 0 0]) (b := b89) (j := 0) (n := 2) (cs' := #[vS none 0 0, vS none 0 0]) (H' := [Cel b89 #[vS none 0 0, vS none 0 0] 31, Cel b1 #[vB false] 4]) (by kernel_rfl) (by kernel_rfl) (by kernel_rfl) (by kernel_rfl) (by kernel_rfl) hW 0 (by rfl) (Nat.le_of_ble_eq_true (by kernel_rfl)) (by kernel_rfl) (by rfl) ?_)); clear hA ac hW; intro w91 hW ac hA
 refine st_rdF (v := vI .i64 (newErr l)) hA (by kernel_rfl) (by kernel_rfl) (by kernel_rfl) (by kernel_rfl) hW.cls (Rd.pure fun _ => by kernel_rfl) ?_; clear hA ac; intro ac hA
 refine wpListIn_nil <| thenN <| wpIn_seq <| wpIn_seq <| wpIn_region_lit <| st_rdF (v := vI .i64 (newErr l)) hA (by kernel_rfl) (by kernel_rfl) (by kernel_rfl) (by kernel_rfl) hW.cls (Rd.pure fun _ => by kernel_rfl) ?_; clear hA ac; intro ac hA
 refine st_rdF (v := vB ((newErr l : Int) != (0 : Int))) hA (by kernel_rfl) (by kernel_rfl) (by kernel_rfl) (by kernel_rfl) hW.cls (Rd.pure fun _ => by kernel_rfl) ?_; clear hA ac; intro ac hA
 refine wpListIn_nil <| thenN <| wpIn_cond_split (t := (newErr l : Int) != (0 : Int)) (hA.eval (by kernel_rfl)) (fun h92 => ?_) (fun h92 => ?_)
 ·
  have h92 := bne_iff_ne.1 h92
  refine wpIn_seq <| wpIn_region_lit <| st_rdF (v := vI .i64 (newErr l)) hA (by kernel_rfl) (by kernel_rfl) (by kernel_rfl) (by kernel_rfl) hW.cls (Rd.pure fun _ => by kernel_rfl) ?_; clear hA ac; intro ac hA
  refine stF hA (by kernel_rfl) (by kernel_rfl) (by kernel_rfl) (by kernel_rfl) (RunsF.of (Runs.callN (v := vI .i64 (newErr l)) (fun _ => by kernel_rfl) hW (e_num (newErr l) w91) ?_)); clear hA ac hW; intro w93 hW hfw93 ac hA
  refine st_rdF (v := vI .i64 (newErr l)) hA (by kernel_rfl) (by kernel_rfl) (by kernel_rfl) (by kernel_rfl) hW.cls (Rd.pure fun _ => by kernel_rfl) ?_; clear hA ac; intro ac hA
  refine st_rdF (v := vB (((newErr l) : Int) == (newErr l : Int))) hA (by kernel_rfl) (by kernel_rfl) (by kernel_rfl) (by kernel_rfl) hW.cls (Rd.pure fun _ => by kernel_rfl) ?_; clear hA ac; intro ac hA
  refine st_rdF (v := vB (((newErr l) : Int) == (newErr l : Int))) hA (by kernel_rfl) (by kernel_rfl) (by kernel_rfl) (by kernel_rfl) hW.cls (Rd.pure fun _ => by kernel_rfl) ?_; clear hA ac; intro ac hA
  rcases Bool.eq_false_or_eq_true (((newErr l) : Int) == (newErr l : Int)) with h94 | h94
  ·
   rw [h94] at hA
   have h94 := eq_of_beq h94
   refine stF hA (by kernel_rfl) (by kernel_rfl) (by kernel_rfl) (by kernel_rfl) (RunsF.of (Runs.callN (v := vB true) (fun _ => by kernel_rfl) hW (e_works w93) ?_)); clear hA ac hW; intro w95 hW hfw95 ac hA
   refine st_rdF (v := vB true) hA (by kernel_rfl) (by kernel_rfl) (by kernel_rfl) (by kernel_rfl) hW.cls (Rd.pure fun _ => by kernel_rfl) ?_; clear hA ac; intro ac hA
   refine stF hA (by kernel_rfl) (by kernel_rfl) (by kernel_rfl) (by kernel_rfl) (RunsF.of (Runs.store (v := vB true) (b := b1) (j := 0) (n := 1) (cs' := #[vB true]) (H' := [Cel b89 #[vS none 0 0, vS none 0 0] 31, Cel b1 #[vB true] 4]) (by kernel_rfl) (by kernel_rfl) (by kernel_rfl) (by kernel_rfl) (by kernel_rfl) hW 1 (by rfl) (Nat.le_of_ble_eq_true (by kernel_rfl)) (by kernel_rfl) (by rfl) ?_)); clear hA ac hW; intro w96 hW ac hA
   refine wpListIn_nil <| thenN <| wpIn_ret <| thenR <| retF (.inl rfl) hA <| leave1 (v := vB true) (by rfl) (GotF.cell (b := b1) (i := 0) hA (by kernel_rfl) (by kernel_rfl) (hW.cel 1 rfl) (by kernel_rfl)) ?_
   clear hA
   exact ⟨retv (by rfl), hW.fr⟩
  rw [h94] at hA
  have h94 := ne_of_beq_false h94
  exfalso; clear hA hW; omega
 have h92 := of_bne_f h92
 exfalso; clear hA hW; omega

theorem racePairs_walk (A : Option Addr) (len cap : Nat) (l : List Event) (j : Int) (w : World) (hl : l.length = len) (hc : len ≤ cap) (hm : cap ≤ maxLen) (hw : ∀ x ∈ l, wfEvent x) (hr : RowAt w A 9 enEvent l) (hy : Lit.wf (.int .i64 j)) :
    Calls Tryz.prog 7 #[.slice A len cap, .int .i64 j] w fun e w' => e = .returned (.bool true) ∧ Fr No w w' := by
  subst hl
  exact e_racePairs A cap l j w hr hc (Nat.le_trans (Nat.le_trans hc hm) (by decide)) (fun x hx => wf_event (hw x hx)) (by simpa [Lit.wf, IntKind.min, IntKind.max, IntKind.bits, IntKind.signed] using hy)

end Go.Proofs.YtfkbjfbbigbacaaGreatDoor.L
