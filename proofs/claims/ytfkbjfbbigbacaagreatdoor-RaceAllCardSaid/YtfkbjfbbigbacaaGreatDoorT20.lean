/- Contracts, walked by program over the engine's laws. -/
import Derived.Test.YtfkbjfbbigbacaaGreatDoorProg
import Derived.Test.YtfkbjfbbigbacaaGreatDoorT19
namespace Go.Proofs.YtfkbjfbbigbacaaGreatDoor.L
open Go.RowKit
open Go.Value renaming int → vI, slice → vS, bool → vB, pointer → vP, func → vF, agg → vA, map → vM, tuple → vT

set_option maxHeartbeats 4000000 in
set_option maxRecDepth 100000 in
theorem e_raceAll (A_l : Option Addr) (c_l : Nat) (l : List Event) (many : Int) (w : World) (hr_l : RowAt w A_l 9 enEvent l) (hc_l : l.length ≤ c_l) (hl : l.length ≤ 9223372036854775807) (hel : ∀ x ∈ l, (-9223372036854775808 ≤ x.kind ∧ x.kind ≤ 9223372036854775807) ∧ 0 ≤ x.addr ∧ x.addr ≤ 4294967295) (hmy : -9223372036854775808 ≤ many ∧ many ≤ 9223372036854775807) : Calls Tryz.prog 3 #[vS A_l l.length c_l, vI .i64 many] w (fun e w' => e = .returned (vB true) ∧ Fr No w w') := by
 have _hu := hc_l; have _hv := hr_l; clear _hu _hv
 have _hu := hl; clear _hu
 have _hu := hel; clear _hu
 have _hu := hmy; clear _hu
 refine enter_F 103 Tryz.func3 rfl rfl (by kernel_rfl) (L := [(0, vS A_l l.length c_l), (1, vI .i64 many)]) (by kernel_rfl) ?_
 intro ac hA
 have hW := Ws.start w No
 have hW := hW.arg hr_l
 refine wpIn_seq <| wpIn_region_lit <| stF hA (by kernel_rfl) (by kernel_rfl) (by kernel_rfl) (by kernel_rfl) (RunsF.of (Runs.cells (fun b => pA b 0) #[vI .i64 many] 3 (fun _ => by kernel_rfl) hW ?_)); clear hA ac hW; intro b1 w2 hW hb1 hfw2 ac hA
 refine stF hA (by kernel_rfl) (by kernel_rfl) (by kernel_rfl) (by kernel_rfl) (RunsF.of (Runs.cells (fun b => pA b 0) #[vB false] 4 (fun _ => by kernel_rfl) hW ?_)); clear hA ac hW; intro b3 w4 hW hb3 hfw4 ac hA
 refine wpListIn_nil <| thenN <| wpIn_seq <| wpIn_seq <| wpIn_region_lit <| st_rdF (v := vS A_l l.length c_l) hA (by kernel_rfl) (by kernel_rfl) (by kernel_rfl) (by kernel_rfl) hW.cls (Rd.pure fun _ => by kernel_rfl) ?_; clear hA ac; intro ac hA
 refine stF hA (by kernel_rfl) (by kernel_rfl) (by kernel_rfl) (by kernel_rfl) (RunsF.of (Runs.callN (v := vB (fewOk l (50))) (fun _ => by kernel_rfl) hW (e_lfew A_l c_l l (50) w4 ((hW).getG 0 rfl) (by first | assumption | omega | (simp; omega) | simp) hl hel (by decide) (by decide)) ?_)); clear hA ac hW; intro w5 hW hfw5 ac hA
 refine st_rdF (v := vB (!(fewOk l (50)))) hA (by kernel_rfl) (by kernel_rfl) (by kernel_rfl) (by kernel_rfl) hW.cls (Rd.pure fun _ => by kernel_rfl) ?_; clear hA ac; intro ac hA
 refine wpListIn_nil <| thenN <| wpIn_cond_split (t := !(fewOk l (50))) (hA.eval (by kernel_rfl)) (fun h6 => ?_) (fun h6 => ?_)
 ·
  have h6 := not_t h6
  first
  | (exfalso; clear hA hW; omega)
  | (exfalso; clear hA hW; exact h6 rfl; done)
  | (
   refine wpIn_seq <| wpIn_region_lit <| stF hA (by kernel_rfl) (by kernel_rfl) (by kernel_rfl) (by kernel_rfl) (RunsF.of (Runs.callN (v := vB true) (fun _ => by kernel_rfl) hW (e_works w5) ?_)); clear hA ac hW; intro w7 hW hfw7 ac hA
   refine stF hA (by kernel_rfl) (by kernel_rfl) (by kernel_rfl) (by kernel_rfl) (RunsF.of (Runs.store (v := vB true) (b := b3) (j := 0) (n := 1) (cs' := #[vB true]) (H' := [Cel b3 #[vB true] 4, Cel b1 #[vI .i64 many] 3]) (by kernel_rfl) (by kernel_rfl) (by kernel_rfl) (by kernel_rfl) (by kernel_rfl) hW 0 (by rfl) (Nat.le_of_ble_eq_true (by kernel_rfl)) (by kernel_rfl) (by rfl) ?_)); clear hA ac hW; intro w8 hW ac hA
   refine wpListIn_nil <| thenN <| wpIn_ret <| thenR <| retF (.inl rfl) hA <| leave1 (v := vB true) (by rfl) (GotF.cell (b := b3) (i := 0) hA (by kernel_rfl) (by kernel_rfl) (hW.cel 0 rfl) (by kernel_rfl)) ?_
   clear hA
   exact ⟨retv (by rfl), hW.fr⟩)
 have h6 := not_f h6
 first
 | (exfalso; clear hA hW; omega)
 | (exfalso; clear hA hW; exact h6 rfl; done)
 | (
  refine wpIn_skip <| thenN <| wpIn_seq ?_
  have hfl_ := few_len (show fewOk l 50 = true from h6)
  rcases Bool.eq_false_or_eq_true (decide (newOk l)) with h9 | h9
  ·
   have h9 := of_decide_eq_true h9
   first
   | (exfalso; clear hA hW; omega)
   | (exfalso; clear hA hW; exact h9 rfl; done)
   | (
    have hfl_ := few_len (show fewOk l 50 = true from h6)
    have hfl_ := few_len (show fewOk l 50 = true from h6)
    refine wpIn_region_lit <| st_rdF (v := vS A_l l.length c_l) hA (by kernel_rfl) (by kernel_rfl) (by kernel_rfl) (by kernel_rfl) hW.cls (Rd.pure fun _ => by kernel_rfl) ?_; clear hA ac; intro ac hA
    refine stF hA (by kernel_rfl) (by kernel_rfl) (by kernel_rfl) (by kernel_rfl) (RunsF.of (Runs.call (fun _ => by kernel_rfl) (e_onew A_l c_l l w5 ((hW).getG 0 rfl) (by first | assumption | omega | (simp; omega) | simp) (by omega) (And.right (by assumption)) (fun x hx => (hel x hx).2)) ?_))
    rintro _ w10 ⟨n11, n12, n13, n14, n15, n16, n17, n18, n19, n20, rfl, hw10_hK, hu_⟩; refine ⟨_, rfl, ?_⟩; replace hW := hW.made hu_; clear hA ac; intro ac hA
    refine st_rdF (v := vT #[pA n11 0, vI .i64 0]) hA (by kernel_rfl) (by kernel_rfl) (by kernel_rfl) (by kernel_rfl) hW.cls (Rd.pure fun _ => by kernel_rfl) ?_; clear hA ac; intro ac hA
    refine st_rdF (v := pA n11 0) hA (by kernel_rfl) (by kernel_rfl) (by kernel_rfl) (by kernel_rfl) hW.cls (Rd.pure fun _ => by kernel_rfl) ?_; clear hA ac; intro ac hA
    refine st_rdF (v := vI .i64 0) hA (by kernel_rfl) (by kernel_rfl) (by kernel_rfl) (by kernel_rfl) hW.cls (Rd.pure fun _ => by kernel_rfl) ?_; clear hA ac; intro ac hA
    refine st_rdF (v := pA n11 0) hA (by kernel_rfl) (by kernel_rfl) (by kernel_rfl) (by kernel_rfl) hW.cls (Rd.pure fun _ => by kernel_rfl) ?_; clear hA ac; intro ac hA
    refine st_rdF (v := vI .i64 0) hA (by kernel_rfl) (by kernel_rfl) (by kernel_rfl) (by kernel_rfl) hW.cls (Rd.pure fun _ => by kernel_rfl) ?_; clear hA ac; intro ac hA
    refine wpListIn_nil <| thenN <| wpIn_seq ?_
    have hok := hw10_hK; have hev := hok.ev; have hlc_ := hok.clen; have hbg_ := race_lil (E := l) (by omega)
    refine wpIn_region_lit <| st_rdF (v := vS A_l l.length c_l) hA (by kernel_rfl) (by kernel_rfl) (by kernel_rfl) (by kernel_rfl) hW.cls (Rd.pure fun _ => by kernel_rfl) ?_; clear hA ac; intro ac hA
    refine stF hA (by kernel_rfl) (by kernel_rfl) (by kernel_rfl) (by kernel_rfl) (RunsF.of (Runs.call (fun _ => by kernel_rfl) (e_rnew A_l c_l l w10 ((hW).getG 0 rfl) (by first | assumption | omega | (simp; omega) | simp) (by omega) (And.right (by assumption)) hel) ?_))
    rintro _ w21 ⟨g22, AoL23, coL24, AoB25, coB26, rfl, hw21_hB, hccoL24, hccoB26, hkcoB26, hfcoL24, hfcoB26, hnfcoB26, hfw21⟩; refine ⟨_, rfl, ?_⟩; have hW0 := hW; have hW := hW0.call hfw21
    have hW := hW0.addFromAt hW hfcoL24 (in_cons (in_at 0 rfl) in_nil)
    have hW := hW0.addFromAt hW hfcoB26 (in_cons (in_at 0 rfl) in_nil)
    have hW := hW0.addFromAt hW hnfcoB26 (in_cons (in_at 0 rfl) in_nil)
    clear hW0 hA ac; intro ac hA
    refine st_rdF (v := vT #[vA #[vS AoL23 l.length coL24, vS AoB25 g22.length coB26], vI .i64 0]) hA (by kernel_rfl) (by kernel_rfl) (by kernel_rfl) (by kernel_rfl) hW.cls (Rd.pure fun _ => by kernel_rfl) ?_; clear hA ac; intro ac hA
    refine st_rdF (v := vA #[vS AoL23 l.length coL24, vS AoB25 g22.length coB26]) hA (by kernel_rfl) (by kernel_rfl) (by kernel_rfl) (by kernel_rfl) hW.cls (Rd.pure fun _ => by kernel_rfl) ?_; clear hA ac; intro ac hA
    refine st_rdF (v := vI .i64 0) hA (by kernel_rfl) (by kernel_rfl) (by kernel_rfl) (by kernel_rfl) hW.cls (Rd.pure fun _ => by kernel_rfl) ?_; clear hA ac; intro ac hA
    refine stF hA (by kernel_rfl) (by kernel_rfl) (by kernel_rfl) (by kernel_rfl) (RunsF.of (Runs.cells (fun b => pA b 0) #[vS none 0 0, vS none 0 0] 31 (fun _ => by kernel_rfl) hW ?_)); clear hA ac hW; intro b27 w28 hW hb27 hfw28 ac hA
    refine stF hA (by kernel_rfl) (by kernel_rfl) (by kernel_rfl) (by kernel_rfl) (RunsF.of (Runs.store (v := vA #[vS AoL23 l.length coL24, vS AoB25 g22.length coB26]) (b := b27) (j := 0) (n := 2) (cs' := #[vS AoL23 l.length coL24, vS AoB25 g22.length coB26]) (H' := [Cel b27 #[vS AoL23 l.length coL24, vS AoB25 g22.length coB26] 31, OrdR n11 n12 n13 l n14 n15 n16 n17 n18 n19 n20, Cel b3 #[vB false] 4, Cel b1 #[vI .i64 many] 3]) (by kernel_rfl) (by kernel_rfl) (by kernel_rfl) (by kernel_rfl) (by kernel_rfl) hW 0 (by rfl) (Nat.le_of_ble_eq_true (by kernel_rfl)) (by kernel_rfl) (by rfl) ?_)); clear hA ac hW; intro w29 hW ac hA
    refine st_rdF (v := vI .i64 0) hA (by kernel_rfl) (by kernel_rfl) (by kernel_rfl) (by kernel_rfl) hW.cls (Rd.pure fun _ => by kernel_rfl) ?_; clear hA ac; intro ac hA
    refine wpListIn_nil <| thenN <| wpIn_seq <| wpIn_seq <| wpIn_region_lit <| st_rdF (v := vI .i64 0) hA (by kernel_rfl) (by kernel_rfl) (by kernel_rfl) (by kernel_rfl) hW.cls (Rd.pure fun _ => by kernel_rfl) ?_; clear hA ac; intro ac hA
    refine stF hA (by kernel_rfl) (by kernel_rfl) (by kernel_rfl) (by kernel_rfl) (RunsF.of (Runs.callN (v := vI .i64 (0)) (fun _ => by kernel_rfl) hW (e_num (0) w29) ?_)); clear hA ac hW; intro w30 hW hfw30 ac hA
    refine st_rdF (v := vI .i64 0) hA (by kernel_rfl) (by kernel_rfl) (by kernel_rfl) (by kernel_rfl) hW.cls (Rd.pure fun _ => by kernel_rfl) ?_; clear hA ac; intro ac hA
    refine st_rdF (v := vB (((0) : Int) != (0 : Int))) hA (by kernel_rfl) (by kernel_rfl) (by kernel_rfl) (by kernel_rfl) hW.cls (Rd.pure fun _ => by kernel_rfl) ?_; clear hA ac; intro ac hA
    refine wpListIn_nil <| thenN <| wpIn_cond_split (t := ((0) : Int) != (0 : Int)) (hA.eval (by kernel_rfl)) (fun h31 => ?_) (fun h31 => ?_)
    ·
     have h31 := bne_iff_ne.1 h31
     first
     | (exfalso; clear hA hW; omega)
     | (exfalso; clear hA hW; exact h31 rfl; done)
     | (
      fail)
    have h31 := of_bne_f h31
    first
    | (exfalso; clear hA hW; omega)
    | (exfalso; clear hA hW; exact h31 rfl; done)
    | (
     refine wpIn_skip <| thenN <| wpIn_seq ?_
     have hBr_ := hw21_hB
     refine wpIn_region_lit <| st_rdF (v := vA #[vS AoL23 l.length coL24, vS AoB25 g22.length coB26]) hA (by kernel_rfl) (by kernel_rfl) (by kernel_rfl) (by kernel_rfl) hW.cls (rl b27 0 0) ?_; clear hA ac; intro ac hA
     refine stF hA (by kernel_rfl) (by kernel_rfl) (by kernel_rfl) (by kernel_rfl) (RunsF.of (Runs.callRow (E := 47) (sz := 7) (en := enRace) (l := (raceL l)) (fun _ => by kernel_rfl) hW (e_r21all AoL23 coL24 l AoB25 coB26 g22 w30 ((hW).getG 2 rfl) (by first | assumption | omega | (simp; omega) | simp) ((hW).getG 1 rfl) (by first | assumption | omega | (simp; omega) | simp) ((hW).getG 0 rfl) hkcoB26 (by first | omega | (simp; done)) (by first | exact hev | (simp; done)) (by first | exact hBr_ | rfl) (by first | omega | (simp; done))) ?_)); clear hA ac hW; intro A33 c34 w32 hW hcc34 hfw32 ac hA
     refine stF hA (by kernel_rfl) (by kernel_rfl) (by kernel_rfl) (by kernel_rfl) (RunsF.of (Runs.cells (fun b => pA b 0) #[vS none 0 0] 35 (fun _ => by kernel_rfl) hW ?_)); clear hA ac hW; intro b36 w37 hW hb36 hfw37 ac hA
     refine stF hA (by kernel_rfl) (by kernel_rfl) (by kernel_rfl) (by kernel_rfl) (RunsF.of (Runs.store (v := vS A33 (raceL l).length c34) (b := b36) (j := 0) (n := 1) (cs' := #[vS A33 (raceL l).length c34]) (H' := [Cel b36 #[vS A33 (raceL l).length c34] 35, rowR 47 7 enRace (vS A33 (raceL l).length c34) (raceL l), Cel b27 #[vS AoL23 l.length coL24, vS AoB25 g22.length coB26] 31, OrdR n11 n12 n13 l n14 n15 n16 n17 n18 n19 n20, Cel b3 #[vB false] 4, Cel b1 #[vI .i64 many] 3]) (by kernel_rfl) (by kernel_rfl) (by kernel_rfl) (by kernel_rfl) (by kernel_rfl) hW 0 (by rfl) (Nat.le_of_ble_eq_true (by kernel_rfl)) (by kernel_rfl) (by rfl) ?_)); clear hA ac hW; intro w38 hW ac hA
     refine wpListIn_nil <| thenN <| wpIn_seq <| wpIn_region_lit <| st_rdF (v := pA n11 0) hA (by kernel_rfl) (by kernel_rfl) (by kernel_rfl) (by kernel_rfl) hW.cls (Rd.pure fun _ => by kernel_rfl) ?_; clear hA ac; intro ac hA
     refine stF hA (by kernel_rfl) (by kernel_rfl) (by kernel_rfl) (by kernel_rfl) (RunsF.of (Runs.call (fun _ => by kernel_rfl) (e_rAll n11 n12 n13 l n14 n15 n16 n17 n18 n19 n20 w38 ((hW).get 3 rfl) ((hW).lt _ (List.mem_of_getElem? (i := 3) rfl)) hok (by omega)) ?_))
     rintro _ w39 ⟨lb40, g41, rfl, hIg41, hfg41, hfw39⟩; refine ⟨_, rfl, ?_⟩; have hW0 := hW; have hW := hW0.call hfw39; have hW := hW0.addFromAt hW hfg41 in_nil; clear hW0 hA ac; intro ac hA
     refine st_rdF (v := vF (.func 36) #[] lb40) hA (by kernel_rfl) (by kernel_rfl) (by kernel_rfl) (by kernel_rfl) hW.cls (Rd.pure fun _ => by kernel_rfl) ?_; clear hA ac; intro ac hA
     refine wpListIn_nil <| thenN <| wpIn_seq <| wpIn_seq <| q_regionF (by kernel_rfl) (by kernel_rfl) (by kernel_rfl) hW <| sq_p (vF (.func 36) #[] lb40) hA fun ac hA => sq_p (vB false) hA fun ac hA => sq_p (vB false) hA fun ac hA => sq_p (pA n11 0) hA fun ac hA => sq_call (v := vB (decide ((raceL l).length = 0))) hA (by kernel_rfl) (by kernel_rfl) (by kernel_rfl) (fun _ => by kernel_rfl) (Cls.callNC fun wx hwx => e_rFree n11 n12 n13 l n14 n15 n16 n17 n18 n19 n20 wx ((hwx.1).get 3 rfl) ((hwx.1).lt _ (List.mem_of_getElem? (i := 3) rfl)) hok (by omega)) ?_; clear hA ac; intro ac hA
     refine sq_q (vS A33 (raceL l).length c34) hA (rl b36 0 0) fun ac hA => sq_p (vI .i64 (((raceL l).length : Nat) : Int)) hA fun ac hA => sq_p (vB (((((raceL l).length : Nat) : Int) : Int) == (0 : Int))) hA fun ac hA => sq_p (vB (!((decide ((raceL l).length = 0)) == (((((raceL l).length : Nat) : Int) : Int) == (0 : Int))))) hA fun ac hA => sq_p (vB (!((decide ((raceL l).length = 0)) == (((((raceL l).length : Nat) : Int) : Int) == (0 : Int))))) hA fun ac hA => sq_nil ?_; intro w42 hww42; have hW := hww42.1; have hfw42 := hww42.2; clear hww42
     refine thenN <| wpIn_cond_split (t := !((decide ((raceL l).length = 0)) == (((((raceL l).length : Nat) : Int) : Int) == (0 : Int)))) (hA.eval (by kernel_rfl)) (fun h43 => ?_) (fun h43 => ?_)
     ·
      have h43 := bbne_t h43
      first
      | (exfalso; clear hA hW; omega)
      | (exfalso; clear hA hW; exact h43 rfl; done)
      | (exfalso; clear hA hW; exact h43 (by first | rfl | decide); done)
      | (exfalso; clear hA hW; exact h43 (by rw [Bool.eq_iff_iff]; simp); done)
      | (
       fail)
     have h43 := bbne_f h43
     first
     | (exfalso; clear hA hW; omega)
     | (exfalso; clear hA hW; exact h43 rfl; done)
     | (exfalso; clear hA hW; exact h43 (by first | rfl | decide); done)
     | (exfalso; clear hA hW; exact h43 (by rw [Bool.eq_iff_iff]; simp); done)
     | (
      refine wpIn_skip <| thenN <| wpIn_seq <| wpIn_seq <| wpIn_region_lit <| stF hA (by kernel_rfl) (by kernel_rfl) (by kernel_rfl) (by kernel_rfl) (RunsF.of (Runs.cells (fun b => pA b 0) #[vI .i64 0] 3 (fun _ => by kernel_rfl) hW ?_)); clear hA ac hW; intro b44 w45 hW hb44 hfw45 ac hA
      refine stF hA (by kernel_rfl) (by kernel_rfl) (by kernel_rfl) (by kernel_rfl) (RunsF.of (Runs.store (v := vI .i64 0) (b := b44) (j := 0) (n := 1) (cs' := #[vI .i64 0]) (H' := [Cel b44 #[vI .i64 0] 3, Cel b36 #[vS A33 (raceL l).length c34] 35, rowR 47 7 enRace (vS A33 (raceL l).length c34) (raceL l), Cel b27 #[vS AoL23 l.length coL24, vS AoB25 g22.length coB26] 31, OrdR n11 n12 n13 l n14 n15 n16 n17 n18 n19 n20, Cel b3 #[vB false] 4, Cel b1 #[vI .i64 many] 3]) (by kernel_rfl) (by kernel_rfl) (by kernel_rfl) (by kernel_rfl) (by kernel_rfl) hW 0 (by rfl) (Nat.le_of_ble_eq_true (by kernel_rfl)) (by kernel_rfl) (by rfl) ?_)); clear hA ac hW; intro w46 hW ac hA
      refine wpListIn_nil <| thenN <| wpIn_block <| wpIn_loop_rounds 3 ?_
      rw [roundsIn_succ]
      refine wpIn_seq <| wpIn_seq <| wpIn_region_lit <| st_rdF (v := vI .i64 0) hA (by kernel_rfl) (by kernel_rfl) (by kernel_rfl) (by kernel_rfl) hW.cls (rl b44 0 0) ?_; clear hA ac; intro ac hA
      refine st_rdF (v := vB true) hA (by kernel_rfl) (by kernel_rfl) (by kernel_rfl) (by kernel_rfl) hW.cls (Rd.pure fun _ => by kernel_rfl) ?_; clear hA ac; intro ac hA
      refine wpListIn_nil <| thenN <| wpIn_cond_true (hA.eval (by kernel_rfl)) <| wpIn_skip <| thenN <| wpIn_seq <| wpIn_block <| wpIn_seq <| wpIn_region_lit <| stF hA (by kernel_rfl) (by kernel_rfl) (by kernel_rfl) (by kernel_rfl) (RunsF.of (Runs.cells (fun b => pA b 0) #[vI .i64 0] 3 (fun _ => by kernel_rfl) hW ?_)); clear hA ac hW; intro b47 w48 hW hb47 hfw48 ac hA
      refine stF hA (by kernel_rfl) (by kernel_rfl) (by kernel_rfl) (by kernel_rfl) (RunsF.of (Runs.store (v := vI .i64 0) (b := b47) (j := 0) (n := 1) (cs' := #[vI .i64 0]) (H' := [Cel b47 #[vI .i64 0] 3, Cel b44 #[vI .i64 0] 3, Cel b36 #[vS A33 (raceL l).length c34] 35, rowR 47 7 enRace (vS A33 (raceL l).length c34) (raceL l), Cel b27 #[vS AoL23 l.length coL24, vS AoB25 g22.length coB26] 31, OrdR n11 n12 n13 l n14 n15 n16 n17 n18 n19 n20, Cel b3 #[vB false] 4, Cel b1 #[vI .i64 many] 3]) (by kernel_rfl) (by kernel_rfl) (by kernel_rfl) (by kernel_rfl) (by kernel_rfl) hW 0 (by rfl) (Nat.le_of_ble_eq_true (by kernel_rfl)) (by kernel_rfl) (by rfl) ?_)); clear hA ac hW; intro w49 hW ac hA
      refine wpListIn_nil <| thenN <| wpIn_seq <| wpIn_seq ?_
      have hW := hW.share 3 rfl (H' := [Cel b47 #[vI .i64 0] 3, Cel b44 #[vI .i64 0] 3, Cel b36 #[vS A33 (raceL l).length c34] 35, Cel b27 #[vS AoL23 l.length coL24, vS AoB25 g22.length coB26] 31, OrdR n11 n12 n13 l n14 n15 n16 n17 n18 n19 n20, Cel b3 #[vB false] 4, Cel b1 #[vI .i64 many] 3]) rfl
      have hW := hW.nestG (roR A33 7 enRace (raceL l)) (rowR_at (E := 47) (hW.getG 0 rfl) elt_Race.len) (fun _ hb_ => ⟨_, List.mem_of_getElem? (i := 0) rfl, rowR_fp _ hb_⟩)
      have hW := hW.share 2 rfl (H' := [Cel b47 #[vI .i64 0] 3, Cel b44 #[vI .i64 0] 3, Cel b27 #[vS AoL23 l.length coL24, vS AoB25 g22.length coB26] 31, OrdR n11 n12 n13 l n14 n15 n16 n17 n18 n19 n20, Cel b3 #[vB false] 4, Cel b1 #[vI .i64 many] 3]) rfl
      replace hW : Ws w No [Cel b47 #[vI .i64 0] 3, Cel b44 #[vI .i64 0] 3, Cel b27 #[vS AoL23 l.length coL24, vS AoB25 g22.length coB26] 31, OrdR n11 n12 n13 l n14 n15 n16 n17 n18 n19 n20, Cel b3 #[vB false] 4, Cel b1 #[vI .i64 many] 3] [Cel b36 #[vS A33 (raceL l).length c34] 35, roR A33 7 enRace (raceL l), rowR 47 7 enRace (vS A33 (raceL l).length c34) (raceL l), g41, nestR innerBV g22, roR AoB25 1 enBV g22, roR AoL23 9 enEvent l, roR A_l 9 enEvent l] w49 := hW
      refine wpIn_region_lit <| st_rdF (v := vF (.func 36) #[] lb40) hA (by kernel_rfl) (by kernel_rfl) (by kernel_rfl) (by kernel_rfl) hW.cls (Rd.pure fun _ => by kernel_rfl) ?_; clear hA ac; intro ac hA
      refine wpListIn_nil <| thenN <| wpIn_block ?_
      have hW := hW.share 5 rfl (H' := [Cel b47 #[vI .i64 0] 3, Cel b44 #[vI .i64 0] 3, Cel b27 #[vS AoL23 l.length coL24, vS AoB25 g22.length coB26] 31, OrdR n11 n12 n13 l n14 n15 n16 n17 n18 n19 n20, Cel b3 #[vB false] 4]) rfl
      have hW := hW.share 1 rfl (H' := [Cel b47 #[vI .i64 0] 3, Cel b27 #[vS AoL23 l.length coL24, vS AoB25 g22.length coB26] 31, OrdR n11 n12 n13 l n14 n15 n16 n17 n18 n19 n20, Cel b3 #[vB false] 4]) rfl
      refine wp_range (encs := (fun x_ : Race × Nat => #[vI .i64 ((x_.2 : Nat) : Int), x_.1.v])) (Sx := (· = (raceL l).zipIdx)) hA (by kernel_rfl) (by kernel_rfl) (enters_of Tryz.func36 (by kernel_rfl) rfl) (by kernel_rfl) (fun _ => rfl) hIg41 (List.forall_mem_singleton.2 (List.mem_of_getElem? (i := 5) rfl)) (fun pre_ H_ => ∃ k : Nat, pre_ = (raceL l).zipIdx.take k ∧ k ≤ (raceL l).length ∧ (k = 0 ∨ (k : Int) < many) ∧ H_ = [Cel b47 #[vI .i64 (k : Int)] 3]) (fun c_ _ H_ => (c_ = .exit 2 ∧ ∃ n : Nat, (1 ≤ n ∧ n ≤ (raceL l).length ∧ (n : Int) ≥ many ∧ (n = 1 ∨ (n : Int) - 1 < many)) ∧ H_ = [Cel b47 #[vI .i64 (n : Int)] 3])) (H := [Cel b47 #[vI .i64 0] 3]) (K := [Cel b27 #[vS AoL23 l.length coL24, vS AoB25 g22.length coB26] 31, OrdR n11 n12 n13 l n14 n15 n16 n17 n18 n19 n20, Cel b3 #[vB false] 4]) (hW.pick [0, 1, 2, 3] (by decide) rfl) ⟨0, rfl, Nat.zero_le _, by omega, rfl⟩ ?_ ?_ ?_
      ·
       clear hA ac hW; intro l_50 rd_50 bs_50 pre_ x_ Hk_ w51 T_50 ac hrd_50 hbs_50 hbr_50 hok_ hJ_ hA hW hB_50 hT_50
       obtain ⟨k, rfl, hk_, hm_, rfl⟩ := hJ_
       obtain ⟨y52, rfl, hy52, hlty52, hsny52⟩ := comes_zip hok_ hk_
       replace hA : Fm 103 [] [(0, vS A_l l.length c_l), (1, vI .i64 many), (3, pA b1 0), (4, pA b3 0), (5, pA n11 0), (6, vI .i64 0), (7, pA b27 0), (8, vI .i64 0), (9, pA b36 0), (10, vF (.func 36) #[] lb40), (11, pA b44 0), (12, pA b47 0), (15, vS A_l l.length c_l), (16, vB (fewOk l (50))), (17, vB (!(fewOk l (50)))), (19, vT #[pA n11 0, vI .i64 0]), (20, vS A_l l.length c_l), (21, vT #[pA n11 0, vI .i64 0]), (22, pA n11 0), (23, vI .i64 0), (24, vT #[vA #[vS AoL23 l.length coL24, vS AoB25 g22.length coB26], vI .i64 0]), (25, vS A_l l.length c_l), (26, vT #[vA #[vS AoL23 l.length coL24, vS AoB25 g22.length coB26], vI .i64 0]), (27, vA #[vS AoL23 l.length coL24, vS AoB25 g22.length coB26]), (28, vI .i64 0), (29, vI .i64 0), (30, vI .i64 (0)), (31, vI .i64 0), (32, vB (((0) : Int) != (0 : Int))), (33, vA #[vS AoL23 l.length coL24, vS AoB25 g22.length coB26]), (34, vS A33 (raceL l).length c34), (35, pA n11 0), (36, vF (.func 36) #[] lb40), (37, vF (.func 36) #[] lb40), (38, vB false), (39, vB false), (40, pA n11 0), (41, vB (decide ((raceL l).length = 0))), (42, vS A33 (raceL l).length c34), (43, vI .i64 (((raceL l).length : Nat) : Int)), (44, vB (((((raceL l).length : Nat) : Int) : Int) == (0 : Int))), (45, vB (!((decide ((raceL l).length = 0)) == (((((raceL l).length : Nat) : Int) : Int) == (0 : Int))))), (46, vB (!((decide ((raceL l).length = 0)) == (((((raceL l).length : Nat) : Int) : Int) == (0 : Int))))), (47, vI .i64 0), (48, vB true), (51, vF (.func 36) #[] lb40), (52, vI .i64 (k : Int)), (53, y52.v)] ac := hA.sub (by and_intros <;> first | kernel_rfl | trivial)
       refine wpIn_seq <| wpIn_region_lit <| st_rdF (v := vI .i64 (k : Int)) hA (by kernel_rfl) (by kernel_rfl) (by kernel_rfl) (by kernel_rfl) hW.cls (Rd.pure fun _ => by kernel_rfl) ?_; clear hA ac; intro ac hA
       refine wpListIn_nil <| thenN <| wpIn_region_lit <| stF hA (by kernel_rfl) (by kernel_rfl) (by kernel_rfl) (by kernel_rfl) (RunsF.of (Runs.cells (fun b => pA b 0) #[vI .i64 0, vI .i64 0, vI .u32 0, vI .i64 0, vI .i64 0, vI .i64 0, vI .i64 0] 47 (fun _ => by kernel_rfl) hW ?_)); clear hA ac hW; intro b53 w54 hW hb53 hfw54 ac hA
       refine stF hA (by kernel_rfl) (by kernel_rfl) (by kernel_rfl) (by kernel_rfl) (RunsF.of (Runs.store (v := y52.v) (b := b53) (j := 0) (n := 7) (cs' := #[vI .i64 y52.i, vI .i64 y52.j, vI .u32 y52.addr, vI .i64 y52.p.a.f, vI .i64 y52.p.a.pc, vI .i64 y52.p.b.f, vI .i64 y52.p.b.pc]) (H' := [Cel b53 #[vI .i64 y52.i, vI .i64 y52.j, vI .u32 y52.addr, vI .i64 y52.p.a.f, vI .i64 y52.p.a.pc, vI .i64 y52.p.b.f, vI .i64 y52.p.b.pc] 47, rd_50, Cel b47 #[vI .i64 (k : Int)] 3]) (by kernel_rfl) (by kernel_rfl) (by kernel_rfl) (by kernel_rfl) (by kernel_rfl) hW 0 (by rfl) (Nat.le_of_ble_eq_true (by kernel_rfl)) (by kernel_rfl) (by rfl) ?_)); clear hA ac hW; intro w55 hW ac hA
       refine wpListIn_nil <| thenN <| begun (bs := bs_50) (H' := [Cel b53 #[vI .i64 y52.i, vI .i64 y52.j, vI .u32 y52.addr, vI .i64 y52.p.a.f, vI .i64 y52.p.a.pc, vI .i64 y52.p.b.f, vI .i64 y52.p.b.pc] 47, bs_50, Cel b47 #[vI .i64 (k : Int)] 3]) hW 1 rfl (fun b hb => by rw [hbs_50] at hb; rw [hrd_50]; exact hb) rfl ?_; clear hW; intro w56 hW
       refine wpIn_block <| wpIn_seq <| wpIn_seq <| q_regionF (by kernel_rfl) (by kernel_rfl) (by kernel_rfl) hW <| sq_p (vI .i64 (k : Int)) hA fun ac hA => sq_q (vI .i64 (k : Int)) hA (rl b47 0 2) fun ac hA => sq_p (vB ((k : Int) != (k : Int))) hA fun ac hA => sq_p (vB ((k : Int) != (k : Int))) hA fun ac hA => ?_
       rcases Bool.eq_false_or_eq_true ((k : Int) != (k : Int)) with h57 | h57
       ·
        rw [h57] at hA
        have h57 := bne_iff_ne.1 h57
        first
        | (exfalso; clear hA hW; omega)
        | (exfalso; clear hA hW; exact h57 rfl; done)
        | (
         fail)
       rw [h57] at hA
       have h57 := of_bne_f h57
       first
       | (exfalso; clear hA hW; omega)
       | (exfalso; clear hA hW; exact h57 rfl; done)
       | (
        refine sq_q (vI .i64 (k : Int)) hA (rl b47 0 2) fun ac hA => sq_q (vS A33 (raceL l).length c34) hA (Rd.load (b := b36) (i := 0) (by kernel_rfl) (fun _ hw => show _ = _ from (hw.1).getG 2 rfl) (by kernel_rfl)) fun ac hA => sq_p (vI .i64 (((raceL l).length : Nat) : Int)) hA fun ac hA => sq_p (vB (decide ((k : Int) ≥ ((((raceL l).length : Nat) : Int) : Int)))) hA fun ac hA => sq_p (vB (decide ((k : Int) ≥ ((((raceL l).length : Nat) : Int) : Int)))) hA fun ac hA => sq_p (vB (decide ((k : Int) ≥ ((((raceL l).length : Nat) : Int) : Int)))) hA fun ac hA => ?_
        rcases Bool.eq_false_or_eq_true (decide ((k : Int) ≥ ((((raceL l).length : Nat) : Int) : Int))) with h58 | h58
        ·
         rw [h58] at hA
         have h58 := of_decide_eq_true h58
         first
         | (exfalso; clear hA hW; omega)
         | (exfalso; clear hA hW; exact h58 rfl; done)
         | (
          fail)
        rw [h58] at hA
        have h58 := of_decide_eq_false h58
        first
        | (exfalso; clear hA hW; omega)
        | (exfalso; clear hA hW; exact h58 rfl; done)
        | (
         refine sq_q (vA #[vI .i64 y52.i, vI .i64 y52.j, vI .u32 y52.addr, vI .i64 y52.p.a.f, vI .i64 y52.p.a.pc, vI .i64 y52.p.b.f, vI .i64 y52.p.b.pc]) hA (rl b53 0 0) fun ac hA => sq_q (vS A33 (raceL l).length c34) hA (Rd.load (b := b36) (i := 0) (by kernel_rfl) (fun _ hw => show _ = _ from (hw.1).getG 2 rfl) (by kernel_rfl)) fun ac hA => sq_q (vI .i64 (k : Int)) hA (rl b47 0 2) fun ac hA => ?_
         obtain ⟨b59, o60, rfl, hbb59⟩ := row_some ((hW).getG 3 rfl) hy52
         refine sq_q (vP (some ⟨b59, o60 + k * 7, none⟩)) hA (Rd.indexAddr (e := 47) (sz := 7) (b := b59) (off := o60) (n := (raceL l).length) (c := c34) (k := k) (by kernel_rfl) (by kernel_rfl) (by first | omega | (simp; done) | (simp; omega)) (fun _ => by kernel_rfl) (fun _ => by kernel_rfl)) fun ac hA => sq_q (vA #[vI .i64 y52.i, vI .i64 y52.j, vI .u32 y52.addr, vI .i64 y52.p.a.f, vI .i64 y52.p.a.pc, vI .i64 y52.p.b.f, vI .i64 y52.p.b.pc]) hA (Rd.loadRow (b := b59) (i := o60 + k * 7) (xs := [vI .i64 y52.i, vI .i64 y52.j, vI .u32 y52.addr, vI .i64 y52.p.a.f, vI .i64 y52.p.a.pc, vI .i64 y52.p.b.f, vI .i64 y52.p.b.pc]) (by kernel_rfl) (fun _ hw => row_ld ((hw.1).getG 3 rfl) hy52 (Fr.refl No _) (fun h => h) 0 7 (by kernel_rfl)) (by kernel_rfl)) fun ac hA => sq_q (vB (!decide (y52 = y52))) hA (Rd.neS (u := y52.v) (v := y52.v) (by kernel_rfl) (by kernel_rfl) rfl rfl (by kernel_rfl) (fun w => eq_Race w y52 y52)) fun ac hA => sq_p (vB (!decide (y52 = y52))) hA fun ac hA => sq_nil ?_; intro w61 hww61; have hW := hww61.1; have hfw61 := hww61.2; clear hww61
         refine thenN <| wpIn_cond_split (t := !decide (y52 = y52)) (hA.eval (by kernel_rfl)) (fun h62 => ?_) (fun h62 => ?_)
         ·
          have h62 := not_t h62
          have h62 := of_decide_eq_false h62
          have h62e := fun e => h62 ((Race.eqi _ _).2 e)
          first
          | (exfalso; clear hA hW; omega)
          | (exfalso; clear hA hW; exact h62 rfl; done)
          | (
           fail)
         have h62 := not_f h62
         have h62 := of_decide_eq_true h62
         have h62e := (Race.eqi _ _).1 h62
         first
         | (exfalso; clear hA hW; omega)
         | (exfalso; clear hA hW; exact h62 rfl; done)
         | (
          refine wpIn_skip <| thenN <| wpIn_seq <| wpIn_region_lit <| st_rdF (v := vI .i64 (k : Int)) hA (by kernel_rfl) (by kernel_rfl) (by kernel_rfl) (by kernel_rfl) hW.cls (rl b47 0 2) ?_; clear hA ac; intro ac hA
          refine st_rdF (v := vI .i64 ((k + 1 : Nat) : Int)) hA (by kernel_rfl) (by kernel_rfl) (by kernel_rfl) (by kernel_rfl) hW.cls (Rd.pureE (v0 := vI .i64 (IntKind.i64.wrap ((k : Int) + 1))) (fun _ => by kernel_rfl) (congrArg (vI .i64) ((w_i64 (x := (k : Int) + 1) (by omega) (by omega)).trans (by omega)))) ?_; clear hA ac; intro ac hA
          refine stF hA (by kernel_rfl) (by kernel_rfl) (by kernel_rfl) (by kernel_rfl) (RunsF.of (Runs.store (v := vI .i64 ((k + 1 : Nat) : Int)) (b := b47) (j := 0) (n := 1) (cs' := #[vI .i64 ((k + 1 : Nat) : Int)]) (H' := [Cel b53 #[vI .i64 y52.i, vI .i64 y52.j, vI .u32 y52.addr, vI .i64 y52.p.a.f, vI .i64 y52.p.a.pc, vI .i64 y52.p.b.f, vI .i64 y52.p.b.pc] 47, bs_50, Cel b47 #[vI .i64 ((k + 1 : Nat) : Int)] 3]) (by kernel_rfl) (by kernel_rfl) (by kernel_rfl) (by kernel_rfl) (by kernel_rfl) hW 2 (by rfl) (Nat.le_of_ble_eq_true (by kernel_rfl)) (by kernel_rfl) (by rfl) ?_)); clear hA ac hW; intro w63 hW ac hA
          refine wpListIn_nil <| thenN <| wpIn_seq <| wpIn_region_lit <| st_rdF (v := vI .i64 0) hA (by kernel_rfl) (by kernel_rfl) (by kernel_rfl) (by kernel_rfl) hW.cls (Rd.load (b := b44) (i := 0) (by kernel_rfl) (fun _ hw => show _ = _ from (hw.1).getG 0 rfl) (by kernel_rfl)) ?_; clear hA ac; intro ac hA
          refine st_rdF (v := vB true) hA (by kernel_rfl) (by kernel_rfl) (by kernel_rfl) (by kernel_rfl) hW.cls (Rd.pure fun _ => by kernel_rfl) ?_; clear hA ac; intro ac hA
          refine st_rdF (v := vB true) hA (by kernel_rfl) (by kernel_rfl) (by kernel_rfl) (by kernel_rfl) hW.cls (Rd.pure fun _ => by kernel_rfl) ?_; clear hA ac; intro ac hA
          refine st_rdF (v := vI .i64 ((k + 1 : Nat) : Int)) hA (by kernel_rfl) (by kernel_rfl) (by kernel_rfl) (by kernel_rfl) hW.cls (rl b47 0 2) ?_; clear hA ac; intro ac hA
          refine st_rdF (v := vI .i64 many) hA (by kernel_rfl) (by kernel_rfl) (by kernel_rfl) (by kernel_rfl) hW.cls (Rd.load (b := b1) (i := 0) (by kernel_rfl) (fun _ hw => show _ = _ from (hw.1).getG 1 rfl) (by kernel_rfl)) ?_; clear hA ac; intro ac hA
          refine st_rdF (v := vB (decide ((((k + 1 : Nat) : Int) : Int) ≥ (many : Int)))) hA (by kernel_rfl) (by kernel_rfl) (by kernel_rfl) (by kernel_rfl) hW.cls (Rd.pure fun _ => by kernel_rfl) ?_; clear hA ac; intro ac hA
          refine st_rdF (v := vB (decide ((((k + 1 : Nat) : Int) : Int) ≥ (many : Int)))) hA (by kernel_rfl) (by kernel_rfl) (by kernel_rfl) (by kernel_rfl) hW.cls (Rd.pure fun _ => by kernel_rfl) ?_; clear hA ac; intro ac hA
          refine wpListIn_nil <| thenN <| wpIn_cond_split (t := decide ((((k + 1 : Nat) : Int) : Int) ≥ (many : Int))) (hA.eval (by kernel_rfl)) (fun h64 => ?_) (fun h64 => ?_)
          ·
           have h64 := of_decide_eq_true h64
           first
           | (exfalso; clear hA hW; omega)
           | (exfalso; clear hA hW; exact h64 rfl; done)
           | (
            refine wpIn_exit <| blkY (by kernel_rfl) ?_
            exact ⟨_, ⟨rfl, k + 1, by omega, rfl⟩, (hW.pick [1, 2] (by decide) rfl).pickG [0, 1, 2, 3, 4, 5, 6, 7, 8, 9] rfl⟩)
          have h64 := of_decide_eq_false h64
          first
          | (exfalso; clear hA hW; omega)
          | (exfalso; clear hA hW; exact h64 rfl; done)
          | (
           refine wpIn_skip <| blkN ?_
           exact ⟨_, ⟨k + 1, hsny52, hlty52, by omega, rfl⟩, (hW.pick [1, 2] (by decide) rfl).pickG [0, 1, 2, 3, 4, 5, 6, 7, 8, 9] rfl⟩))))
      ·
       clear hA ac hW; intro D65 xs_ Hk_ w66 ac hS_ hJ_ hA hW
       obtain ⟨k, hpre_, hk_, hm_, rfl⟩ := hJ_
       have hke : k = (raceL l).length := by have := congrArg List.length (hS_.symm.trans hpre_); simp at this; omega
       clear hpre_ hS_
       replace hW : Ws w No [Cel b47 #[vI .i64 (k : Int)] 3, DefR D65, Cel b27 #[vS AoL23 l.length coL24, vS AoB25 g22.length coB26] 31, OrdR n11 n12 n13 l n14 n15 n16 n17 n18 n19 n20, Cel b3 #[vB false] 4] [Cel b44 #[vI .i64 0] 3, Cel b1 #[vI .i64 many] 3, Cel b36 #[vS A33 (raceL l).length c34] 35, roR A33 7 enRace (raceL l), rowR 47 7 enRace (vS A33 (raceL l).length c34) (raceL l), g41, nestR innerBV g22, roR AoB25 1 enBV g22, roR AoL23 9 enEvent l, roR A_l 9 enEvent l] w66 := hW
       refine blkN <| thenN <| wpIn_seq <| wpIn_region_lit <| st_rdF (v := vI .i64 0) hA (by kernel_rfl) (by kernel_rfl) (by kernel_rfl) (by kernel_rfl) hW.cls (Rd.load (b := b44) (i := 0) (by kernel_rfl) (fun _ hw => show _ = _ from (hw.1).getG 0 rfl) (by kernel_rfl)) ?_; clear hA ac; intro ac hA
       refine st_rdF (v := vB true) hA (by kernel_rfl) (by kernel_rfl) (by kernel_rfl) (by kernel_rfl) hW.cls (Rd.pure fun _ => by kernel_rfl) ?_; clear hA ac; intro ac hA
       refine st_rdF (v := vB true) hA (by kernel_rfl) (by kernel_rfl) (by kernel_rfl) (by kernel_rfl) hW.cls (Rd.pure fun _ => by kernel_rfl) ?_; clear hA ac; intro ac hA
       refine st_rdF (v := vI .i64 (k : Int)) hA (by kernel_rfl) (by kernel_rfl) (by kernel_rfl) (by kernel_rfl) hW.cls (rl b47 0 0) ?_; clear hA ac; intro ac hA
       refine st_rdF (v := vS A33 (raceL l).length c34) hA (by kernel_rfl) (by kernel_rfl) (by kernel_rfl) (by kernel_rfl) hW.cls (Rd.load (b := b36) (i := 0) (by kernel_rfl) (fun _ hw => show _ = _ from (hw.1).getG 2 rfl) (by kernel_rfl)) ?_; clear hA ac; intro ac hA
       refine st_rdF (v := vI .i64 (((raceL l).length : Nat) : Int)) hA (by kernel_rfl) (by kernel_rfl) (by kernel_rfl) (by kernel_rfl) hW.cls (Rd.pure fun _ => by kernel_rfl) ?_; clear hA ac; intro ac hA
       refine st_rdF (v := vI .i64 many) hA (by kernel_rfl) (by kernel_rfl) (by kernel_rfl) (by kernel_rfl) hW.cls (Rd.load (b := b1) (i := 0) (by kernel_rfl) (fun _ hw => show _ = _ from (hw.1).getG 1 rfl) (by kernel_rfl)) ?_; clear hA ac; intro ac hA
       refine st_rdF (v := vI .i64 (max (1 : Int) (many : Int))) hA (by kernel_rfl) (by kernel_rfl) (by kernel_rfl) (by kernel_rfl) hW.cls (Rd.pureE (v0 := vI .i64 (if (many : Int) > (1 : Int) then (many : Int) else (1 : Int))) (fun _ => by kernel_rfl) (congrArg (vI .i64) (max_ _ _))) ?_; clear hA ac; intro ac hA
       refine st_rdF (v := vI .i64 (min ((((raceL l).length : Nat) : Int) : Int) (max (1 : Int) (many : Int) : Int))) hA (by kernel_rfl) (by kernel_rfl) (by kernel_rfl) (by kernel_rfl) hW.cls (Rd.pureE (v0 := vI .i64 (if (max (1 : Int) (many : Int) : Int) < ((((raceL l).length : Nat) : Int) : Int) then (max (1 : Int) (many : Int) : Int) else ((((raceL l).length : Nat) : Int) : Int))) (fun _ => by kernel_rfl) (congrArg (vI .i64) (min_ _ _))) ?_; clear hA ac; intro ac hA
       refine st_rdF (v := vB ((k : Int) != (min ((((raceL l).length : Nat) : Int) : Int) (max (1 : Int) (many : Int) : Int) : Int))) hA (by kernel_rfl) (by kernel_rfl) (by kernel_rfl) (by kernel_rfl) hW.cls (Rd.pure fun _ => by kernel_rfl) ?_; clear hA ac; intro ac hA
       refine st_rdF (v := vB ((k : Int) != (min ((((raceL l).length : Nat) : Int) : Int) (max (1 : Int) (many : Int) : Int) : Int))) hA (by kernel_rfl) (by kernel_rfl) (by kernel_rfl) (by kernel_rfl) hW.cls (Rd.pure fun _ => by kernel_rfl) ?_; clear hA ac; intro ac hA
       refine st_rdF (v := vB ((k : Int) != (min ((((raceL l).length : Nat) : Int) : Int) (max (1 : Int) (many : Int) : Int) : Int))) hA (by kernel_rfl) (by kernel_rfl) (by kernel_rfl) (by kernel_rfl) hW.cls (Rd.pure fun _ => by kernel_rfl) ?_; clear hA ac; intro ac hA
       rcases Bool.eq_false_or_eq_true ((k : Int) != (min ((((raceL l).length : Nat) : Int) : Int) (max (1 : Int) (many : Int) : Int) : Int)) with h67 | h67
       ·
        rw [h67] at hA
        have h67 := bne_iff_ne.1 h67
        first
        | (exfalso; clear hA hW; omega)
        | (exfalso; clear hA hW; exact h67 rfl; done)
        | (
         fail)
       rw [h67] at hA
       have h67 := of_bne_f h67
       first
       | (exfalso; clear hA hW; omega)
       | (exfalso; clear hA hW; exact h67 rfl; done)
       | (
        refine st_rdF (v := vI .i64 0) hA (by kernel_rfl) (by kernel_rfl) (by kernel_rfl) (by kernel_rfl) hW.cls (Rd.load (b := b44) (i := 0) (by kernel_rfl) (fun _ hw => show _ = _ from (hw.1).getG 0 rfl) (by kernel_rfl)) ?_; clear hA ac; intro ac hA
        refine st_rdF (v := vB false) hA (by kernel_rfl) (by kernel_rfl) (by kernel_rfl) (by kernel_rfl) hW.cls (Rd.pure fun _ => by kernel_rfl) ?_; clear hA ac; intro ac hA
        refine st_rdF (v := vB false) hA (by kernel_rfl) (by kernel_rfl) (by kernel_rfl) (by kernel_rfl) hW.cls (Rd.pure fun _ => by kernel_rfl) ?_; clear hA ac; intro ac hA
        refine st_skipF hA (by kernel_rfl) (by kernel_rfl) ?_; clear hA ac; intro ac hA
        refine st_skipF hA (by kernel_rfl) (by kernel_rfl) ?_; clear hA ac; intro ac hA
        refine st_skipF hA (by kernel_rfl) (by kernel_rfl) ?_; clear hA ac; intro ac hA
        refine st_skipF hA (by kernel_rfl) (by kernel_rfl) ?_; clear hA ac; intro ac hA
        refine st_rdF (v := vB false) hA (by kernel_rfl) (by kernel_rfl) (by kernel_rfl) (by kernel_rfl) hW.cls (Rd.pure fun _ => by kernel_rfl) ?_; clear hA ac; intro ac hA
        refine st_rdF (v := vB false) hA (by kernel_rfl) (by kernel_rfl) (by kernel_rfl) (by kernel_rfl) hW.cls (Rd.pure fun _ => by kernel_rfl) ?_; clear hA ac; intro ac hA
        refine wpListIn_nil <| thenN <| wpIn_cond_false (hA.eval (by kernel_rfl)) <| wpIn_skip <| blkN <| thenN <| wpIn_seq <| wpIn_seq <| wpIn_region_lit <| st_rdF (v := vI .i64 0) hA (by kernel_rfl) (by kernel_rfl) (by kernel_rfl) (by kernel_rfl) hW.cls (Rd.load (b := b44) (i := 0) (by kernel_rfl) (fun _ hw => show _ = _ from (hw.1).getG 0 rfl) (by kernel_rfl)) ?_; clear hA ac; intro ac hA
        refine wpListIn_nil <| thenN <| wpIn_region_lit <| stF hA (by kernel_rfl) (by kernel_rfl) (by kernel_rfl) (by kernel_rfl) (RunsF.of (Runs.cells (fun b => pA b 0) #[vI .i64 0] 3 (fun _ => by kernel_rfl) hW ?_)); clear hA ac hW; intro b68 w69 hW hb68 hfw69 ac hA
        refine stF hA (by kernel_rfl) (by kernel_rfl) (by kernel_rfl) (by kernel_rfl) (RunsF.of (Runs.store (v := vI .i64 0) (b := b68) (j := 0) (n := 1) (cs' := #[vI .i64 0]) (H' := [Cel b68 #[vI .i64 0] 3, Cel b47 #[vI .i64 (k : Int)] 3, DefR D65, Cel b27 #[vS AoL23 l.length coL24, vS AoB25 g22.length coB26] 31, OrdR n11 n12 n13 l n14 n15 n16 n17 n18 n19 n20, Cel b3 #[vB false] 4]) (by kernel_rfl) (by kernel_rfl) (by kernel_rfl) (by kernel_rfl) (by kernel_rfl) hW 0 (by rfl) (Nat.le_of_ble_eq_true (by kernel_rfl)) (by kernel_rfl) (by rfl) ?_)); clear hA ac hW; intro w70 hW ac hA
        refine wpListIn_nil <| thenN <| wpIn_region_lit <| st_rdF (v := vI .i64 0) hA (by kernel_rfl) (by kernel_rfl) (by kernel_rfl) (by kernel_rfl) hW.cls (rl b68 0 0) ?_; clear hA ac; intro ac hA
        refine st_rdF (v := vI .i64 1) hA (by kernel_rfl) (by kernel_rfl) (by kernel_rfl) (by kernel_rfl) hW.cls (Rd.pureE (v0 := vI .i64 (IntKind.i64.wrap ((0 : Int) + 1))) (fun _ => by kernel_rfl) (congrArg (vI .i64) ((w_i64 (x := (0 : Int) + 1) (by omega) (by omega)).trans (by omega)))) ?_; clear hA ac; intro ac hA
        refine stF hA (by kernel_rfl) (by kernel_rfl) (by kernel_rfl) (by kernel_rfl) (RunsF.of (Runs.store (v := vI .i64 1) (b := b68) (j := 0) (n := 1) (cs' := #[vI .i64 1]) (H' := [Cel b68 #[vI .i64 1] 3, Cel b47 #[vI .i64 (k : Int)] 3, DefR D65, Cel b27 #[vS AoL23 l.length coL24, vS AoB25 g22.length coB26] 31, OrdR n11 n12 n13 l n14 n15 n16 n17 n18 n19 n20, Cel b3 #[vB false] 4]) (by kernel_rfl) (by kernel_rfl) (by kernel_rfl) (by kernel_rfl) (by kernel_rfl) hW 0 (by rfl) (Nat.le_of_ble_eq_true (by kernel_rfl)) (by kernel_rfl) (by rfl) ?_)); clear hA ac hW; intro w71 hW ac hA
        refine wpListIn_nil <| thenN ?_
        rw [roundsIn_succ]
        refine wpIn_seq <| wpIn_seq <| wpIn_region_lit <| st_rdF (v := vI .i64 1) hA (by kernel_rfl) (by kernel_rfl) (by kernel_rfl) (by kernel_rfl) hW.cls (rl b68 0 0) ?_; clear hA ac; intro ac hA
        refine st_rdF (v := vB true) hA (by kernel_rfl) (by kernel_rfl) (by kernel_rfl) (by kernel_rfl) hW.cls (Rd.pure fun _ => by kernel_rfl) ?_; clear hA ac; intro ac hA
        refine wpListIn_nil <| thenN <| wpIn_cond_true (hA.eval (by kernel_rfl)) <| wpIn_skip <| thenN <| wpIn_seq <| wpIn_block <| wpIn_seq <| wpIn_region_lit <| stF hA (by kernel_rfl) (by kernel_rfl) (by kernel_rfl) (by kernel_rfl) (RunsF.of (Runs.cells (fun b => pA b 0) #[vI .i64 0] 3 (fun _ => by kernel_rfl) hW ?_)); clear hA ac hW; intro b72 w73 hW hb72 hfw73 ac hA
        refine stF hA (by kernel_rfl) (by kernel_rfl) (by kernel_rfl) (by kernel_rfl) (RunsF.of (Runs.store (v := vI .i64 0) (b := b72) (j := 0) (n := 1) (cs' := #[vI .i64 0]) (H' := [Cel b72 #[vI .i64 0] 3, Cel b68 #[vI .i64 1] 3, Cel b47 #[vI .i64 (k : Int)] 3, DefR D65, Cel b27 #[vS AoL23 l.length coL24, vS AoB25 g22.length coB26] 31, OrdR n11 n12 n13 l n14 n15 n16 n17 n18 n19 n20, Cel b3 #[vB false] 4]) (by kernel_rfl) (by kernel_rfl) (by kernel_rfl) (by kernel_rfl) (by kernel_rfl) hW 0 (by rfl) (Nat.le_of_ble_eq_true (by kernel_rfl)) (by kernel_rfl) (by rfl) ?_)); clear hA ac hW; intro w74 hW ac hA
        refine wpListIn_nil <| thenN <| wpIn_seq <| wpIn_seq ?_
        replace hW : Ws w No [Cel b72 #[vI .i64 0] 3, Cel b68 #[vI .i64 1] 3, DefR D65, Cel b27 #[vS AoL23 l.length coL24, vS AoB25 g22.length coB26] 31, OrdR n11 n12 n13 l n14 n15 n16 n17 n18 n19 n20, Cel b3 #[vB false] 4] [Cel b44 #[vI .i64 0] 3, Cel b1 #[vI .i64 many] 3, Cel b36 #[vS A33 (raceL l).length c34] 35, roR A33 7 enRace (raceL l), rowR 47 7 enRace (vS A33 (raceL l).length c34) (raceL l), g41, nestR innerBV g22, roR AoB25 1 enBV g22, roR AoL23 9 enEvent l, roR A_l 9 enEvent l] w74 := hW.pick [0, 1, 3, 4, 5, 6] (by decide) rfl
        refine wpIn_region_lit <| st_rdF (v := vF (.func 36) #[] lb40) hA (by kernel_rfl) (by kernel_rfl) (by kernel_rfl) (by kernel_rfl) hW.cls (Rd.pure fun _ => by kernel_rfl) ?_; clear hA ac; intro ac hA
        refine wpListIn_nil <| thenN <| wpIn_block ?_
        have hW := hW.share 1 rfl (H' := [Cel b72 #[vI .i64 0] 3, DefR D65, Cel b27 #[vS AoL23 l.length coL24, vS AoB25 g22.length coB26] 31, OrdR n11 n12 n13 l n14 n15 n16 n17 n18 n19 n20, Cel b3 #[vB false] 4]) rfl
        refine wp_range (encs := (fun x_ : Race × Nat => #[vI .i64 ((x_.2 : Nat) : Int), x_.1.v])) (Sx := (· = (raceL l).zipIdx)) hA (by kernel_rfl) (by kernel_rfl) (enters_of Tryz.func36 (by kernel_rfl) rfl) (by kernel_rfl) (fun _ => rfl) hIg41 (List.forall_mem_singleton.2 (List.mem_of_getElem? (i := 6) rfl)) (fun pre_ H_ => ∃ k : Nat, pre_ = (raceL l).zipIdx.take k ∧ k ≤ (raceL l).length ∧ H_ = [Cel b72 #[vI .i64 (k : Int)] 3]) (fun _ _ _ => False) (H := [Cel b72 #[vI .i64 0] 3]) (K := [DefR D65, Cel b27 #[vS AoL23 l.length coL24, vS AoB25 g22.length coB26] 31, OrdR n11 n12 n13 l n14 n15 n16 n17 n18 n19 n20, Cel b3 #[vB false] 4]) (hW.pick [0, 1, 2, 3, 4] (by decide) rfl) ⟨0, rfl, Nat.zero_le _, rfl⟩ ?_ ?_ ?_
        ·
         clear hA ac hW; intro l_75 rd_75 bs_75 pre_ x_ Hk_ w76 T_75 ac hrd_75 hbs_75 hbr_75 hok_ hJ_ hA hW hB_75 hT_75
         obtain ⟨k, rfl, hk_, rfl⟩ := hJ_
         obtain ⟨y77, rfl, hy77, hlty77, hsny77⟩ := comes_zip hok_ hk_
         replace hA : Fm 103 [] [(0, vS A_l l.length c_l), (1, vI .i64 many), (3, pA b1 0), (4, pA b3 0), (5, pA n11 0), (6, vI .i64 0), (7, pA b27 0), (8, vI .i64 0), (9, pA b36 0), (10, vF (.func 36) #[] lb40), (11, pA b68 0), (12, pA b72 0), (15, vS A_l l.length c_l), (16, vB (fewOk l (50))), (17, vB (!(fewOk l (50)))), (19, vT #[pA n11 0, vI .i64 0]), (20, vS A_l l.length c_l), (21, vT #[pA n11 0, vI .i64 0]), (22, pA n11 0), (23, vI .i64 0), (24, vT #[vA #[vS AoL23 l.length coL24, vS AoB25 g22.length coB26], vI .i64 0]), (25, vS A_l l.length c_l), (26, vT #[vA #[vS AoL23 l.length coL24, vS AoB25 g22.length coB26], vI .i64 0]), (27, vA #[vS AoL23 l.length coL24, vS AoB25 g22.length coB26]), (28, vI .i64 0), (29, vI .i64 0), (30, vI .i64 (0)), (31, vI .i64 0), (32, vB (((0) : Int) != (0 : Int))), (33, vA #[vS AoL23 l.length coL24, vS AoB25 g22.length coB26]), (34, vS A33 (raceL l).length c34), (35, pA n11 0), (36, vF (.func 36) #[] lb40), (37, vF (.func 36) #[] lb40), (38, vB false), (39, vB false), (40, pA n11 0), (41, vB (decide ((raceL l).length = 0))), (42, vS A33 (raceL l).length c34), (43, vI .i64 (((raceL l).length : Nat) : Int)), (44, vB (((((raceL l).length : Nat) : Int) : Int) == (0 : Int))), (45, vB (!((decide ((raceL l).length = 0)) == (((((raceL l).length : Nat) : Int) : Int) == (0 : Int))))), (46, vB (!((decide ((raceL l).length = 0)) == (((((raceL l).length : Nat) : Int) : Int) == (0 : Int))))), (47, vI .i64 1), (48, vB true), (49, vI .i64 0), (50, vI .i64 1), (51, vF (.func 36) #[] lb40), (52, vI .i64 (k : Int)), (53, y77.v), (80, vI .i64 0), (81, vB true), (82, vB true), (84, vS A33 (raceL l).length c34), (85, vI .i64 (((raceL l).length : Nat) : Int)), (86, vI .i64 many), (87, vI .i64 (max (1 : Int) (many : Int))), (88, vI .i64 (min ((((raceL l).length : Nat) : Int) : Int) (max (1 : Int) (many : Int) : Int))), (89, vB false), (90, vB false), (91, vB false), (92, vI .i64 0), (93, vB false), (94, vB false), (99, vB false), (100, vB false), (101, vI .i64 0)] ac := hA.sub (by and_intros <;> first | kernel_rfl | trivial)
         refine wpIn_seq <| wpIn_region_lit <| st_rdF (v := vI .i64 (k : Int)) hA (by kernel_rfl) (by kernel_rfl) (by kernel_rfl) (by kernel_rfl) hW.cls (Rd.pure fun _ => by kernel_rfl) ?_; clear hA ac; intro ac hA
         refine wpListIn_nil <| thenN <| wpIn_region_lit <| stF hA (by kernel_rfl) (by kernel_rfl) (by kernel_rfl) (by kernel_rfl) (RunsF.of (Runs.cells (fun b => pA b 0) #[vI .i64 0, vI .i64 0, vI .u32 0, vI .i64 0, vI .i64 0, vI .i64 0, vI .i64 0] 47 (fun _ => by kernel_rfl) hW ?_)); clear hA ac hW; intro b78 w79 hW hb78 hfw79 ac hA
         refine stF hA (by kernel_rfl) (by kernel_rfl) (by kernel_rfl) (by kernel_rfl) (RunsF.of (Runs.store (v := y77.v) (b := b78) (j := 0) (n := 7) (cs' := #[vI .i64 y77.i, vI .i64 y77.j, vI .u32 y77.addr, vI .i64 y77.p.a.f, vI .i64 y77.p.a.pc, vI .i64 y77.p.b.f, vI .i64 y77.p.b.pc]) (H' := [Cel b78 #[vI .i64 y77.i, vI .i64 y77.j, vI .u32 y77.addr, vI .i64 y77.p.a.f, vI .i64 y77.p.a.pc, vI .i64 y77.p.b.f, vI .i64 y77.p.b.pc] 47, rd_75, Cel b72 #[vI .i64 (k : Int)] 3]) (by kernel_rfl) (by kernel_rfl) (by kernel_rfl) (by kernel_rfl) (by kernel_rfl) hW 0 (by rfl) (Nat.le_of_ble_eq_true (by kernel_rfl)) (by kernel_rfl) (by rfl) ?_)); clear hA ac hW; intro w80 hW ac hA
         refine wpListIn_nil <| thenN <| begun (bs := bs_75) (H' := [Cel b78 #[vI .i64 y77.i, vI .i64 y77.j, vI .u32 y77.addr, vI .i64 y77.p.a.f, vI .i64 y77.p.a.pc, vI .i64 y77.p.b.f, vI .i64 y77.p.b.pc] 47, bs_75, Cel b72 #[vI .i64 (k : Int)] 3]) hW 1 rfl (fun b hb => by rw [hbs_75] at hb; rw [hrd_75]; exact hb) rfl ?_; clear hW; intro w81 hW
         refine wpIn_block <| wpIn_seq <| wpIn_seq <| q_regionF (by kernel_rfl) (by kernel_rfl) (by kernel_rfl) hW <| sq_p (vI .i64 (k : Int)) hA fun ac hA => sq_q (vI .i64 (k : Int)) hA (rl b72 0 2) fun ac hA => sq_p (vB ((k : Int) != (k : Int))) hA fun ac hA => sq_p (vB ((k : Int) != (k : Int))) hA fun ac hA => ?_
         rcases Bool.eq_false_or_eq_true ((k : Int) != (k : Int)) with h82 | h82
         ·
          rw [h82] at hA
          have h82 := bne_iff_ne.1 h82
          first
          | (exfalso; clear hA hW; omega)
          | (exfalso; clear hA hW; exact h82 rfl; done)
          | (
           fail)
         rw [h82] at hA
         have h82 := of_bne_f h82
         first
         | (exfalso; clear hA hW; omega)
         | (exfalso; clear hA hW; exact h82 rfl; done)
         | (
          refine sq_q (vI .i64 (k : Int)) hA (rl b72 0 2) fun ac hA => sq_q (vS A33 (raceL l).length c34) hA (Rd.load (b := b36) (i := 0) (by kernel_rfl) (fun _ hw => show _ = _ from (hw.1).getG 3 rfl) (by kernel_rfl)) fun ac hA => sq_p (vI .i64 (((raceL l).length : Nat) : Int)) hA fun ac hA => sq_p (vB (decide ((k : Int) ≥ ((((raceL l).length : Nat) : Int) : Int)))) hA fun ac hA => sq_p (vB (decide ((k : Int) ≥ ((((raceL l).length : Nat) : Int) : Int)))) hA fun ac hA => sq_p (vB (decide ((k : Int) ≥ ((((raceL l).length : Nat) : Int) : Int)))) hA fun ac hA => ?_
          rcases Bool.eq_false_or_eq_true (decide ((k : Int) ≥ ((((raceL l).length : Nat) : Int) : Int))) with h83 | h83
          ·
           rw [h83] at hA
           have h83 := of_decide_eq_true h83
           first
           | (exfalso; clear hA hW; omega)
           | (exfalso; clear hA hW; exact h83 rfl; done)
           | (
            fail)
          rw [h83] at hA
          have h83 := of_decide_eq_false h83
          first
          | (exfalso; clear hA hW; omega)
          | (exfalso; clear hA hW; exact h83 rfl; done)
          | (
           refine sq_q (vA #[vI .i64 y77.i, vI .i64 y77.j, vI .u32 y77.addr, vI .i64 y77.p.a.f, vI .i64 y77.p.a.pc, vI .i64 y77.p.b.f, vI .i64 y77.p.b.pc]) hA (rl b78 0 0) fun ac hA => sq_q (vS A33 (raceL l).length c34) hA (Rd.load (b := b36) (i := 0) (by kernel_rfl) (fun _ hw => show _ = _ from (hw.1).getG 3 rfl) (by kernel_rfl)) fun ac hA => sq_q (vI .i64 (k : Int)) hA (rl b72 0 2) fun ac hA => ?_
           obtain ⟨b84, o85, rfl, hbb84⟩ := row_some ((hW).getG 4 rfl) hy77
           refine sq_q (vP (some ⟨b84, o85 + k * 7, none⟩)) hA (Rd.indexAddr (e := 47) (sz := 7) (b := b84) (off := o85) (n := (raceL l).length) (c := c34) (k := k) (by kernel_rfl) (by kernel_rfl) (by first | omega | (simp; done) | (simp; omega)) (fun _ => by kernel_rfl) (fun _ => by kernel_rfl)) fun ac hA => sq_q (vA #[vI .i64 y77.i, vI .i64 y77.j, vI .u32 y77.addr, vI .i64 y77.p.a.f, vI .i64 y77.p.a.pc, vI .i64 y77.p.b.f, vI .i64 y77.p.b.pc]) hA (Rd.loadRow (b := b84) (i := o85 + k * 7) (xs := [vI .i64 y77.i, vI .i64 y77.j, vI .u32 y77.addr, vI .i64 y77.p.a.f, vI .i64 y77.p.a.pc, vI .i64 y77.p.b.f, vI .i64 y77.p.b.pc]) (by kernel_rfl) (fun _ hw => row_ld ((hw.1).getG 4 rfl) hy77 (Fr.refl No _) (fun h => h) 0 7 (by kernel_rfl)) (by kernel_rfl)) fun ac hA => sq_q (vB (!decide (y77 = y77))) hA (Rd.neS (u := y77.v) (v := y77.v) (by kernel_rfl) (by kernel_rfl) rfl rfl (by kernel_rfl) (fun w => eq_Race w y77 y77)) fun ac hA => sq_p (vB (!decide (y77 = y77))) hA fun ac hA => sq_nil ?_; intro w86 hww86; have hW := hww86.1; have hfw86 := hww86.2; clear hww86
           refine thenN <| wpIn_cond_split (t := !decide (y77 = y77)) (hA.eval (by kernel_rfl)) (fun h87 => ?_) (fun h87 => ?_)
           ·
            have h87 := not_t h87
            have h87 := of_decide_eq_false h87
            have h87e := fun e => h87 ((Race.eqi _ _).2 e)
            first
            | (exfalso; clear hA hW; omega)
            | (exfalso; clear hA hW; exact h87 rfl; done)
            | (
             fail)
           have h87 := not_f h87
           have h87 := of_decide_eq_true h87
           have h87e := (Race.eqi _ _).1 h87
           first
           | (exfalso; clear hA hW; omega)
           | (exfalso; clear hA hW; exact h87 rfl; done)
           | (
            refine wpIn_skip <| thenN <| wpIn_seq <| wpIn_region_lit <| st_rdF (v := vI .i64 (k : Int)) hA (by kernel_rfl) (by kernel_rfl) (by kernel_rfl) (by kernel_rfl) hW.cls (rl b72 0 2) ?_; clear hA ac; intro ac hA
            refine st_rdF (v := vI .i64 ((k + 1 : Nat) : Int)) hA (by kernel_rfl) (by kernel_rfl) (by kernel_rfl) (by kernel_rfl) hW.cls (Rd.pureE (v0 := vI .i64 (IntKind.i64.wrap ((k : Int) + 1))) (fun _ => by kernel_rfl) (congrArg (vI .i64) ((w_i64 (x := (k : Int) + 1) (by omega) (by omega)).trans (by omega)))) ?_; clear hA ac; intro ac hA
            refine stF hA (by kernel_rfl) (by kernel_rfl) (by kernel_rfl) (by kernel_rfl) (RunsF.of (Runs.store (v := vI .i64 ((k + 1 : Nat) : Int)) (b := b72) (j := 0) (n := 1) (cs' := #[vI .i64 ((k + 1 : Nat) : Int)]) (H' := [Cel b78 #[vI .i64 y77.i, vI .i64 y77.j, vI .u32 y77.addr, vI .i64 y77.p.a.f, vI .i64 y77.p.a.pc, vI .i64 y77.p.b.f, vI .i64 y77.p.b.pc] 47, bs_75, Cel b72 #[vI .i64 ((k + 1 : Nat) : Int)] 3]) (by kernel_rfl) (by kernel_rfl) (by kernel_rfl) (by kernel_rfl) (by kernel_rfl) hW 2 (by rfl) (Nat.le_of_ble_eq_true (by kernel_rfl)) (by kernel_rfl) (by rfl) ?_)); clear hA ac hW; intro w88 hW ac hA
            refine wpListIn_nil <| thenN <| wpIn_seq <| wpIn_region_lit <| st_rdF (v := vI .i64 1) hA (by kernel_rfl) (by kernel_rfl) (by kernel_rfl) (by kernel_rfl) hW.cls (Rd.load (b := b68) (i := 0) (by kernel_rfl) (fun _ hw => show _ = _ from (hw.1).getG 0 rfl) (by kernel_rfl)) ?_; clear hA ac; intro ac hA
            refine st_rdF (v := vB false) hA (by kernel_rfl) (by kernel_rfl) (by kernel_rfl) (by kernel_rfl) hW.cls (Rd.pure fun _ => by kernel_rfl) ?_; clear hA ac; intro ac hA
            refine st_rdF (v := vB false) hA (by kernel_rfl) (by kernel_rfl) (by kernel_rfl) (by kernel_rfl) hW.cls (Rd.pure fun _ => by kernel_rfl) ?_; clear hA ac; intro ac hA
            refine st_skipF hA (by kernel_rfl) (by kernel_rfl) ?_; clear hA ac; intro ac hA
            refine st_skipF hA (by kernel_rfl) (by kernel_rfl) ?_; clear hA ac; intro ac hA
            refine st_skipF hA (by kernel_rfl) (by kernel_rfl) ?_; clear hA ac; intro ac hA
            refine st_rdF (v := vB false) hA (by kernel_rfl) (by kernel_rfl) (by kernel_rfl) (by kernel_rfl) hW.cls (Rd.pure fun _ => by kernel_rfl) ?_; clear hA ac; intro ac hA
            refine wpListIn_nil <| thenN <| wpIn_cond_false (hA.eval (by kernel_rfl)) <| wpIn_skip <| blkN ?_
            exact ⟨_, ⟨k + 1, hsny77, hlty77, rfl⟩, (hW.pick [1, 2] (by decide) rfl).pickG [0, 1, 2, 3, 4, 5, 6, 7, 8, 9, 10] rfl⟩)))
        ·
         clear hA ac hW; intro D89 xs_ Hk_ w90 ac hS_ hJ_ hA hW
         obtain ⟨k, hpre_, hk_, rfl⟩ := hJ_
         have hke : k = (raceL l).length := by have := congrArg List.length (hS_.symm.trans hpre_); simp at this; omega
         clear hpre_ hS_
         replace hW : Ws w No [Cel b72 #[vI .i64 (k : Int)] 3, DefR D89, DefR D65, Cel b27 #[vS AoL23 l.length coL24, vS AoB25 g22.length coB26] 31, OrdR n11 n12 n13 l n14 n15 n16 n17 n18 n19 n20, Cel b3 #[vB false] 4] [Cel b68 #[vI .i64 1] 3, Cel b44 #[vI .i64 0] 3, Cel b1 #[vI .i64 many] 3, Cel b36 #[vS A33 (raceL l).length c34] 35, roR A33 7 enRace (raceL l), rowR 47 7 enRace (vS A33 (raceL l).length c34) (raceL l), g41, nestR innerBV g22, roR AoB25 1 enBV g22, roR AoL23 9 enEvent l, roR A_l 9 enEvent l] w90 := hW
         refine blkN <| thenN <| wpIn_seq <| wpIn_region_lit <| st_rdF (v := vI .i64 1) hA (by kernel_rfl) (by kernel_rfl) (by kernel_rfl) (by kernel_rfl) hW.cls (Rd.load (b := b68) (i := 0) (by kernel_rfl) (fun _ hw => show _ = _ from (hw.1).getG 0 rfl) (by kernel_rfl)) ?_; clear hA ac; intro ac hA
         refine st_rdF (v := vB false) hA (by kernel_rfl) (by kernel_rfl) (by kernel_rfl) (by kernel_rfl) hW.cls (Rd.pure fun _ => by kernel_rfl) ?_; clear hA ac; intro ac hA
         refine st_rdF (v := vB false) hA (by kernel_rfl) (by kernel_rfl) (by kernel_rfl) (by kernel_rfl) hW.cls (Rd.pure fun _ => by kernel_rfl) ?_; clear hA ac; intro ac hA
         refine st_skipF hA (by kernel_rfl) (by kernel_rfl) ?_; clear hA ac; intro ac hA
         refine st_skipF hA (by kernel_rfl) (by kernel_rfl) ?_; clear hA ac; intro ac hA
         refine st_skipF hA (by kernel_rfl) (by kernel_rfl) ?_; clear hA ac; intro ac hA
         refine st_skipF hA (by kernel_rfl) (by kernel_rfl) ?_; clear hA ac; intro ac hA
         refine st_skipF hA (by kernel_rfl) (by kernel_rfl) ?_; clear hA ac; intro ac hA
         refine st_skipF hA (by kernel_rfl) (by kernel_rfl) ?_; clear hA ac; intro ac hA
         refine st_skipF hA (by kernel_rfl) (by kernel_rfl) ?_; clear hA ac; intro ac hA
         refine st_rdF (v := vB false) hA (by kernel_rfl) (by kernel_rfl) (by kernel_rfl) (by kernel_rfl) hW.cls (Rd.pure fun _ => by kernel_rfl) ?_; clear hA ac; intro ac hA
         refine st_rdF (v := vB false) hA (by kernel_rfl) (by kernel_rfl) (by kernel_rfl) (by kernel_rfl) hW.cls (Rd.pure fun _ => by kernel_rfl) ?_; clear hA ac; intro ac hA
         refine st_rdF (v := vI .i64 1) hA (by kernel_rfl) (by kernel_rfl) (by kernel_rfl) (by kernel_rfl) hW.cls (Rd.load (b := b68) (i := 0) (by kernel_rfl) (fun _ hw => show _ = _ from (hw.1).getG 0 rfl) (by kernel_rfl)) ?_; clear hA ac; intro ac hA
         refine st_rdF (v := vB true) hA (by kernel_rfl) (by kernel_rfl) (by kernel_rfl) (by kernel_rfl) hW.cls (Rd.pure fun _ => by kernel_rfl) ?_; clear hA ac; intro ac hA
         refine st_rdF (v := vB true) hA (by kernel_rfl) (by kernel_rfl) (by kernel_rfl) (by kernel_rfl) hW.cls (Rd.pure fun _ => by kernel_rfl) ?_; clear hA ac; intro ac hA
         refine st_rdF (v := vI .i64 (k : Int)) hA (by kernel_rfl) (by kernel_rfl) (by kernel_rfl) (by kernel_rfl) hW.cls (rl b72 0 0) ?_; clear hA ac; intro ac hA
         refine st_rdF (v := vS A33 (raceL l).length c34) hA (by kernel_rfl) (by kernel_rfl) (by kernel_rfl) (by kernel_rfl) hW.cls (Rd.load (b := b36) (i := 0) (by kernel_rfl) (fun _ hw => show _ = _ from (hw.1).getG 3 rfl) (by kernel_rfl)) ?_; clear hA ac; intro ac hA
         refine st_rdF (v := vI .i64 (((raceL l).length : Nat) : Int)) hA (by kernel_rfl) (by kernel_rfl) (by kernel_rfl) (by kernel_rfl) hW.cls (Rd.pure fun _ => by kernel_rfl) ?_; clear hA ac; intro ac hA
         refine st_rdF (v := vB ((k : Int) != ((((raceL l).length : Nat) : Int) : Int))) hA (by kernel_rfl) (by kernel_rfl) (by kernel_rfl) (by kernel_rfl) hW.cls (Rd.pure fun _ => by kernel_rfl) ?_; clear hA ac; intro ac hA
         refine st_rdF (v := vB ((k : Int) != ((((raceL l).length : Nat) : Int) : Int))) hA (by kernel_rfl) (by kernel_rfl) (by kernel_rfl) (by kernel_rfl) hW.cls (Rd.pure fun _ => by kernel_rfl) ?_; clear hA ac; intro ac hA
         refine st_rdF (v := vB ((k : Int) != ((((raceL l).length : Nat) : Int) : Int))) hA (by kernel_rfl) (by kernel_rfl) (by kernel_rfl) (by kernel_rfl) hW.cls (Rd.pure fun _ => by kernel_rfl) ?_; clear hA ac; intro ac hA
         refine wpListIn_nil <| thenN <| wpIn_cond_split (t := (k : Int) != ((((raceL l).length : Nat) : Int) : Int)) (hA.eval (by kernel_rfl)) (fun h91 => ?_) (fun h91 => ?_)
         ·
          have h91 := bne_iff_ne.1 h91
          first
          | (exfalso; clear hA hW; omega)
          | (exfalso; clear hA hW; exact h91 rfl; done)
          | (
           refine wpIn_seq <| wpIn_region_lit <| stF hA (by kernel_rfl) (by kernel_rfl) (by kernel_rfl) (by kernel_rfl) (RunsF.of (Runs.store (v := vB false) (b := b3) (j := 0) (n := 1) (cs' := #[vB false]) (H' := [Cel b72 #[vI .i64 (k : Int)] 3, DefR D89, DefR D65, Cel b27 #[vS AoL23 l.length coL24, vS AoB25 g22.length coB26] 31, OrdR n11 n12 n13 l n14 n15 n16 n17 n18 n19 n20, Cel b3 #[vB false] 4]) (by kernel_rfl) (by kernel_rfl) (by kernel_rfl) (by kernel_rfl) (by kernel_rfl) hW 5 (by rfl) (Nat.le_of_ble_eq_true (by kernel_rfl)) (by kernel_rfl) (by rfl) ?_)); clear hA ac hW; intro w92 hW ac hA
           refine wpListIn_nil <| thenN <| wpIn_ret <| blkR <| thenR <| thenR <| blkR <| thenR <| retF (.inl rfl) hA <| leaveD (H' := [Cel b72 #[vI .i64 (k : Int)] 3, DefR D65, Cel b27 #[vS AoL23 l.length coL24, vS AoB25 g22.length coB26] 31, OrdR n11 n12 n13 l n14 n15 n16 n17 n18 n19 n20, Cel b3 #[vB false] 4]) hW 1 rfl rfl ?_; clear hW; intro w93 hW
           refine leaveD (H' := [Cel b72 #[vI .i64 (k : Int)] 3, Cel b27 #[vS AoL23 l.length coL24, vS AoB25 g22.length coB26] 31, OrdR n11 n12 n13 l n14 n15 n16 n17 n18 n19 n20, Cel b3 #[vB false] 4]) hW 1 rfl rfl ?_; clear hW; intro w94 hW
           refine leave1 (v := vB false) (by rfl) (GotF.cell (b := b3) (i := 0) hA (by kernel_rfl) (by kernel_rfl) (hW.cel 3 rfl) (by kernel_rfl)) ?_
           clear hA
           exact ⟨retv (by rfl), hW.fr⟩)
         have h91 := of_bne_f h91
         first
         | (exfalso; clear hA hW; omega)
         | (exfalso; clear hA hW; exact h91 rfl; done)
         | (
          refine wpIn_skip <| blkN <| thenN <| wpIn_seq <| wpIn_seq <| wpIn_region_lit <| st_rdF (v := vI .i64 1) hA (by kernel_rfl) (by kernel_rfl) (by kernel_rfl) (by kernel_rfl) hW.cls (Rd.load (b := b68) (i := 0) (by kernel_rfl) (fun _ hw => show _ = _ from (hw.1).getG 0 rfl) (by kernel_rfl)) ?_; clear hA ac; intro ac hA
          refine wpListIn_nil <| thenN <| wpIn_region_lit <| stF hA (by kernel_rfl) (by kernel_rfl) (by kernel_rfl) (by kernel_rfl) (RunsF.of (Runs.cells (fun b => pA b 0) #[vI .i64 0] 3 (fun _ => by kernel_rfl) hW ?_)); clear hA ac hW; intro b95 w96 hW hb95 hfw96 ac hA
          refine stF hA (by kernel_rfl) (by kernel_rfl) (by kernel_rfl) (by kernel_rfl) (RunsF.of (Runs.store (v := vI .i64 1) (b := b95) (j := 0) (n := 1) (cs' := #[vI .i64 1]) (H' := [Cel b95 #[vI .i64 1] 3, Cel b72 #[vI .i64 (k : Int)] 3, DefR D89, DefR D65, Cel b27 #[vS AoL23 l.length coL24, vS AoB25 g22.length coB26] 31, OrdR n11 n12 n13 l n14 n15 n16 n17 n18 n19 n20, Cel b3 #[vB false] 4]) (by kernel_rfl) (by kernel_rfl) (by kernel_rfl) (by kernel_rfl) (by kernel_rfl) hW 0 (by rfl) (Nat.le_of_ble_eq_true (by kernel_rfl)) (by kernel_rfl) (by rfl) ?_)); clear hA ac hW; intro w97 hW ac hA
          refine wpListIn_nil <| thenN <| wpIn_region_lit <| st_rdF (v := vI .i64 1) hA (by kernel_rfl) (by kernel_rfl) (by kernel_rfl) (by kernel_rfl) hW.cls (rl b95 0 0) ?_; clear hA ac; intro ac hA
          refine st_rdF (v := vI .i64 2) hA (by kernel_rfl) (by kernel_rfl) (by kernel_rfl) (by kernel_rfl) hW.cls (Rd.pureE (v0 := vI .i64 (IntKind.i64.wrap ((1 : Int) + 1))) (fun _ => by kernel_rfl) (congrArg (vI .i64) ((w_i64 (x := (1 : Int) + 1) (by omega) (by omega)).trans (by omega)))) ?_; clear hA ac; intro ac hA
          refine stF hA (by kernel_rfl) (by kernel_rfl) (by kernel_rfl) (by kernel_rfl) (RunsF.of (Runs.store (v := vI .i64 2) (b := b95) (j := 0) (n := 1) (cs' := #[vI .i64 2]) (H' := [Cel b95 #[vI .i64 2] 3, Cel b72 #[vI .i64 (k : Int)] 3, DefR D89, DefR D65, Cel b27 #[vS AoL23 l.length coL24, vS AoB25 g22.length coB26] 31, OrdR n11 n12 n13 l n14 n15 n16 n17 n18 n19 n20, Cel b3 #[vB false] 4]) (by kernel_rfl) (by kernel_rfl) (by kernel_rfl) (by kernel_rfl) (by kernel_rfl) hW 0 (by rfl) (Nat.le_of_ble_eq_true (by kernel_rfl)) (by kernel_rfl) (by rfl) ?_)); clear hA ac hW; intro w98 hW ac hA
          refine wpListIn_nil <| thenN ?_
          rw [roundsIn_succ]
          refine wpIn_seq <| wpIn_seq <| wpIn_region_lit <| st_rdF (v := vI .i64 2) hA (by kernel_rfl) (by kernel_rfl) (by kernel_rfl) (by kernel_rfl) hW.cls (rl b95 0 0) ?_; clear hA ac; intro ac hA
          refine st_rdF (v := vB false) hA (by kernel_rfl) (by kernel_rfl) (by kernel_rfl) (by kernel_rfl) hW.cls (Rd.pure fun _ => by kernel_rfl) ?_; clear hA ac; intro ac hA
          refine wpListIn_nil <| thenN <| wpIn_cond_false (hA.eval (by kernel_rfl)) <| wpIn_exit <| thenX <| thenX <| blkX <| thenN <| wpIn_seq <| wpIn_region_lit <| stF hA (by kernel_rfl) (by kernel_rfl) (by kernel_rfl) (by kernel_rfl) (RunsF.of (Runs.callN (v := vB true) (fun _ => by kernel_rfl) hW (e_works w98) ?_)); clear hA ac hW; intro w99 hW hfw99 ac hA
          refine stF hA (by kernel_rfl) (by kernel_rfl) (by kernel_rfl) (by kernel_rfl) (RunsF.of (Runs.store (v := vB true) (b := b3) (j := 0) (n := 1) (cs' := #[vB true]) (H' := [Cel b95 #[vI .i64 2] 3, Cel b72 #[vI .i64 (k : Int)] 3, DefR D89, DefR D65, Cel b27 #[vS AoL23 l.length coL24, vS AoB25 g22.length coB26] 31, OrdR n11 n12 n13 l n14 n15 n16 n17 n18 n19 n20, Cel b3 #[vB true] 4]) (by kernel_rfl) (by kernel_rfl) (by kernel_rfl) (by kernel_rfl) (by kernel_rfl) hW 6 (by rfl) (Nat.le_of_ble_eq_true (by kernel_rfl)) (by kernel_rfl) (by rfl) ?_)); clear hA ac hW; intro w100 hW ac hA
          refine wpListIn_nil <| thenN <| wpIn_ret <| retF (.inl rfl) hA <| leaveD (H' := [Cel b95 #[vI .i64 2] 3, Cel b72 #[vI .i64 (k : Int)] 3, DefR D65, Cel b27 #[vS AoL23 l.length coL24, vS AoB25 g22.length coB26] 31, OrdR n11 n12 n13 l n14 n15 n16 n17 n18 n19 n20, Cel b3 #[vB true] 4]) hW 2 rfl rfl ?_; clear hW; intro w101 hW
          refine leaveD (H' := [Cel b95 #[vI .i64 2] 3, Cel b72 #[vI .i64 (k : Int)] 3, Cel b27 #[vS AoL23 l.length coL24, vS AoB25 g22.length coB26] 31, OrdR n11 n12 n13 l n14 n15 n16 n17 n18 n19 n20, Cel b3 #[vB true] 4]) hW 2 rfl rfl ?_; clear hW; intro w102 hW
          refine leave1 (v := vB true) (by rfl) (GotF.cell (b := b3) (i := 0) hA (by kernel_rfl) (by kernel_rfl) (hW.cel 4 rfl) (by kernel_rfl)) ?_
          clear hA
          exact ⟨retv (by rfl), hW.fr⟩)
        ·
         clear hA ac hW; intro D103 c_ pre_ Hk_ w104 ac hJ_ hA hW
         exact hJ_.elim)
      ·
       clear hA ac hW; intro D105 c_ pre_ Hk_ w106 ac hJ_ hA hW
       rcases hJ_ with ⟨rfl, n, hx_, rfl⟩
       ·
        replace hW : Ws w No [Cel b47 #[vI .i64 (n : Int)] 3, DefR D105, Cel b27 #[vS AoL23 l.length coL24, vS AoB25 g22.length coB26] 31, OrdR n11 n12 n13 l n14 n15 n16 n17 n18 n19 n20, Cel b3 #[vB false] 4] [Cel b44 #[vI .i64 0] 3, Cel b1 #[vI .i64 many] 3, Cel b36 #[vS A33 (raceL l).length c34] 35, roR A33 7 enRace (raceL l), rowR 47 7 enRace (vS A33 (raceL l).length c34) (raceL l), g41, nestR innerBV g22, roR AoB25 1 enBV g22, roR AoL23 9 enEvent l, roR A_l 9 enEvent l] w106 := hW
        refine wpIn_exit <| blkX <| thenN <| wpIn_seq <| wpIn_region_lit <| st_rdF (v := vI .i64 0) hA (by kernel_rfl) (by kernel_rfl) (by kernel_rfl) (by kernel_rfl) hW.cls (Rd.load (b := b44) (i := 0) (by kernel_rfl) (fun _ hw => show _ = _ from (hw.1).getG 0 rfl) (by kernel_rfl)) ?_; clear hA ac; intro ac hA
        refine st_rdF (v := vB true) hA (by kernel_rfl) (by kernel_rfl) (by kernel_rfl) (by kernel_rfl) hW.cls (Rd.pure fun _ => by kernel_rfl) ?_; clear hA ac; intro ac hA
        refine st_rdF (v := vB true) hA (by kernel_rfl) (by kernel_rfl) (by kernel_rfl) (by kernel_rfl) hW.cls (Rd.pure fun _ => by kernel_rfl) ?_; clear hA ac; intro ac hA
        refine st_rdF (v := vI .i64 (n : Int)) hA (by kernel_rfl) (by kernel_rfl) (by kernel_rfl) (by kernel_rfl) hW.cls (rl b47 0 0) ?_; clear hA ac; intro ac hA
        refine st_rdF (v := vS A33 (raceL l).length c34) hA (by kernel_rfl) (by kernel_rfl) (by kernel_rfl) (by kernel_rfl) hW.cls (Rd.load (b := b36) (i := 0) (by kernel_rfl) (fun _ hw => show _ = _ from (hw.1).getG 2 rfl) (by kernel_rfl)) ?_; clear hA ac; intro ac hA
        refine st_rdF (v := vI .i64 (((raceL l).length : Nat) : Int)) hA (by kernel_rfl) (by kernel_rfl) (by kernel_rfl) (by kernel_rfl) hW.cls (Rd.pure fun _ => by kernel_rfl) ?_; clear hA ac; intro ac hA
        refine st_rdF (v := vI .i64 many) hA (by kernel_rfl) (by kernel_rfl) (by kernel_rfl) (by kernel_rfl) hW.cls (Rd.load (b := b1) (i := 0) (by kernel_rfl) (fun _ hw => show _ = _ from (hw.1).getG 1 rfl) (by kernel_rfl)) ?_; clear hA ac; intro ac hA
        refine st_rdF (v := vI .i64 (max (1 : Int) (many : Int))) hA (by kernel_rfl) (by kernel_rfl) (by kernel_rfl) (by kernel_rfl) hW.cls (Rd.pureE (v0 := vI .i64 (if (many : Int) > (1 : Int) then (many : Int) else (1 : Int))) (fun _ => by kernel_rfl) (congrArg (vI .i64) (max_ _ _))) ?_; clear hA ac; intro ac hA
        refine st_rdF (v := vI .i64 (min ((((raceL l).length : Nat) : Int) : Int) (max (1 : Int) (many : Int) : Int))) hA (by kernel_rfl) (by kernel_rfl) (by kernel_rfl) (by kernel_rfl) hW.cls (Rd.pureE (v0 := vI .i64 (if (max (1 : Int) (many : Int) : Int) < ((((raceL l).length : Nat) : Int) : Int) then (max (1 : Int) (many : Int) : Int) else ((((raceL l).length : Nat) : Int) : Int))) (fun _ => by kernel_rfl) (congrArg (vI .i64) (min_ _ _))) ?_; clear hA ac; intro ac hA
        refine st_rdF (v := vB ((n : Int) != (min ((((raceL l).length : Nat) : Int) : Int) (max (1 : Int) (many : Int) : Int) : Int))) hA (by kernel_rfl) (by kernel_rfl) (by kernel_rfl) (by kernel_rfl) hW.cls (Rd.pure fun _ => by kernel_rfl) ?_; clear hA ac; intro ac hA
        refine st_rdF (v := vB ((n : Int) != (min ((((raceL l).length : Nat) : Int) : Int) (max (1 : Int) (many : Int) : Int) : Int))) hA (by kernel_rfl) (by kernel_rfl) (by kernel_rfl) (by kernel_rfl) hW.cls (Rd.pure fun _ => by kernel_rfl) ?_; clear hA ac; intro ac hA
        refine st_rdF (v := vB ((n : Int) != (min ((((raceL l).length : Nat) : Int) : Int) (max (1 : Int) (many : Int) : Int) : Int))) hA (by kernel_rfl) (by kernel_rfl) (by kernel_rfl) (by kernel_rfl) hW.cls (Rd.pure fun _ => by kernel_rfl) ?_; clear hA ac; intro ac hA
        rcases Bool.eq_false_or_eq_true ((n : Int) != (min ((((raceL l).length : Nat) : Int) : Int) (max (1 : Int) (many : Int) : Int) : Int)) with h107 | h107
        ·
         rw [h107] at hA
         have h107 := bne_iff_ne.1 h107
         first
         | (exfalso; clear hA hW; omega)
         | (exfalso; clear hA hW; exact h107 rfl; done)
         | (
          fail)
        rw [h107] at hA
        have h107 := of_bne_f h107
        first
        | (exfalso; clear hA hW; omega)
        | (exfalso; clear hA hW; exact h107 rfl; done)
        | (
         refine st_rdF (v := vI .i64 0) hA (by kernel_rfl) (by kernel_rfl) (by kernel_rfl) (by kernel_rfl) hW.cls (Rd.load (b := b44) (i := 0) (by kernel_rfl) (fun _ hw => show _ = _ from (hw.1).getG 0 rfl) (by kernel_rfl)) ?_; clear hA ac; intro ac hA
         refine st_rdF (v := vB false) hA (by kernel_rfl) (by kernel_rfl) (by kernel_rfl) (by kernel_rfl) hW.cls (Rd.pure fun _ => by kernel_rfl) ?_; clear hA ac; intro ac hA
         refine st_rdF (v := vB false) hA (by kernel_rfl) (by kernel_rfl) (by kernel_rfl) (by kernel_rfl) hW.cls (Rd.pure fun _ => by kernel_rfl) ?_; clear hA ac; intro ac hA
         refine st_skipF hA (by kernel_rfl) (by kernel_rfl) ?_; clear hA ac; intro ac hA
         refine st_skipF hA (by kernel_rfl) (by kernel_rfl) ?_; clear hA ac; intro ac hA
         refine st_skipF hA (by kernel_rfl) (by kernel_rfl) ?_; clear hA ac; intro ac hA
         refine st_skipF hA (by kernel_rfl) (by kernel_rfl) ?_; clear hA ac; intro ac hA
         refine st_rdF (v := vB false) hA (by kernel_rfl) (by kernel_rfl) (by kernel_rfl) (by kernel_rfl) hW.cls (Rd.pure fun _ => by kernel_rfl) ?_; clear hA ac; intro ac hA
         refine st_rdF (v := vB false) hA (by kernel_rfl) (by kernel_rfl) (by kernel_rfl) (by kernel_rfl) hW.cls (Rd.pure fun _ => by kernel_rfl) ?_; clear hA ac; intro ac hA
         refine wpListIn_nil <| thenN <| wpIn_cond_false (hA.eval (by kernel_rfl)) <| wpIn_skip <| blkN <| thenN <| wpIn_seq <| wpIn_seq <| wpIn_region_lit <| st_rdF (v := vI .i64 0) hA (by kernel_rfl) (by kernel_rfl) (by kernel_rfl) (by kernel_rfl) hW.cls (Rd.load (b := b44) (i := 0) (by kernel_rfl) (fun _ hw => show _ = _ from (hw.1).getG 0 rfl) (by kernel_rfl)) ?_; clear hA ac; intro ac hA
         refine wpListIn_nil <| thenN <| wpIn_region_lit <| stF hA (by kernel_rfl) (by kernel_rfl) (by kernel_rfl) (by kernel_rfl) (RunsF.of (Runs.cells (fun b => pA b 0) #[vI .i64 0] 3 (fun _ => by kernel_rfl) hW ?_)); clear hA ac hW; intro b108 w109 hW hb108 hfw109 ac hA
         refine stF hA (by kernel_rfl) (by kernel_rfl) (by kernel_rfl) (by kernel_rfl) (RunsF.of (Runs.store (v := vI .i64 0) (b := b108) (j := 0) (n := 1) (cs' := #[vI .i64 0]) (H' := [Cel b108 #[vI .i64 0] 3, Cel b47 #[vI .i64 (n : Int)] 3, DefR D105, Cel b27 #[vS AoL23 l.length coL24, vS AoB25 g22.length coB26] 31, OrdR n11 n12 n13 l n14 n15 n16 n17 n18 n19 n20, Cel b3 #[vB false] 4]) (by kernel_rfl) (by kernel_rfl) (by kernel_rfl) (by kernel_rfl) (by kernel_rfl) hW 0 (by rfl) (Nat.le_of_ble_eq_true (by kernel_rfl)) (by kernel_rfl) (by rfl) ?_)); clear hA ac hW; intro w110 hW ac hA
         refine wpListIn_nil <| thenN <| wpIn_region_lit <| st_rdF (v := vI .i64 0) hA (by kernel_rfl) (by kernel_rfl) (by kernel_rfl) (by kernel_rfl) hW.cls (rl b108 0 0) ?_; clear hA ac; intro ac hA
         refine st_rdF (v := vI .i64 1) hA (by kernel_rfl) (by kernel_rfl) (by kernel_rfl) (by kernel_rfl) hW.cls (Rd.pureE (v0 := vI .i64 (IntKind.i64.wrap ((0 : Int) + 1))) (fun _ => by kernel_rfl) (congrArg (vI .i64) ((w_i64 (x := (0 : Int) + 1) (by omega) (by omega)).trans (by omega)))) ?_; clear hA ac; intro ac hA
         refine stF hA (by kernel_rfl) (by kernel_rfl) (by kernel_rfl) (by kernel_rfl) (RunsF.of (Runs.store (v := vI .i64 1) (b := b108) (j := 0) (n := 1) (cs' := #[vI .i64 1]) (H' := [Cel b108 #[vI .i64 1] 3, Cel b47 #[vI .i64 (n : Int)] 3, DefR D105, Cel b27 #[vS AoL23 l.length coL24, vS AoB25 g22.length coB26] 31, OrdR n11 n12 n13 l n14 n15 n16 n17 n18 n19 n20, Cel b3 #[vB false] 4]) (by kernel_rfl) (by kernel_rfl) (by kernel_rfl) (by kernel_rfl) (by kernel_rfl) hW 0 (by rfl) (Nat.le_of_ble_eq_true (by kernel_rfl)) (by kernel_rfl) (by rfl) ?_)); clear hA ac hW; intro w111 hW ac hA
         refine wpListIn_nil <| thenN ?_
         rw [roundsIn_succ]
         refine wpIn_seq <| wpIn_seq <| wpIn_region_lit <| st_rdF (v := vI .i64 1) hA (by kernel_rfl) (by kernel_rfl) (by kernel_rfl) (by kernel_rfl) hW.cls (rl b108 0 0) ?_; clear hA ac; intro ac hA
         refine st_rdF (v := vB true) hA (by kernel_rfl) (by kernel_rfl) (by kernel_rfl) (by kernel_rfl) hW.cls (Rd.pure fun _ => by kernel_rfl) ?_; clear hA ac; intro ac hA
         refine wpListIn_nil <| thenN <| wpIn_cond_true (hA.eval (by kernel_rfl)) <| wpIn_skip <| thenN <| wpIn_seq <| wpIn_block <| wpIn_seq <| wpIn_region_lit <| stF hA (by kernel_rfl) (by kernel_rfl) (by kernel_rfl) (by kernel_rfl) (RunsF.of (Runs.cells (fun b => pA b 0) #[vI .i64 0] 3 (fun _ => by kernel_rfl) hW ?_)); clear hA ac hW; intro b112 w113 hW hb112 hfw113 ac hA
         refine stF hA (by kernel_rfl) (by kernel_rfl) (by kernel_rfl) (by kernel_rfl) (RunsF.of (Runs.store (v := vI .i64 0) (b := b112) (j := 0) (n := 1) (cs' := #[vI .i64 0]) (H' := [Cel b112 #[vI .i64 0] 3, Cel b108 #[vI .i64 1] 3, Cel b47 #[vI .i64 (n : Int)] 3, DefR D105, Cel b27 #[vS AoL23 l.length coL24, vS AoB25 g22.length coB26] 31, OrdR n11 n12 n13 l n14 n15 n16 n17 n18 n19 n20, Cel b3 #[vB false] 4]) (by kernel_rfl) (by kernel_rfl) (by kernel_rfl) (by kernel_rfl) (by kernel_rfl) hW 0 (by rfl) (Nat.le_of_ble_eq_true (by kernel_rfl)) (by kernel_rfl) (by rfl) ?_)); clear hA ac hW; intro w114 hW ac hA
         refine wpListIn_nil <| thenN <| wpIn_seq <| wpIn_seq ?_
         replace hW : Ws w No [Cel b112 #[vI .i64 0] 3, Cel b108 #[vI .i64 1] 3, DefR D105, Cel b27 #[vS AoL23 l.length coL24, vS AoB25 g22.length coB26] 31, OrdR n11 n12 n13 l n14 n15 n16 n17 n18 n19 n20, Cel b3 #[vB false] 4] [Cel b44 #[vI .i64 0] 3, Cel b1 #[vI .i64 many] 3, Cel b36 #[vS A33 (raceL l).length c34] 35, roR A33 7 enRace (raceL l), rowR 47 7 enRace (vS A33 (raceL l).length c34) (raceL l), g41, nestR innerBV g22, roR AoB25 1 enBV g22, roR AoL23 9 enEvent l, roR A_l 9 enEvent l] w114 := hW.pick [0, 1, 3, 4, 5, 6] (by decide) rfl
         refine wpIn_region_lit <| st_rdF (v := vF (.func 36) #[] lb40) hA (by kernel_rfl) (by kernel_rfl) (by kernel_rfl) (by kernel_rfl) hW.cls (Rd.pure fun _ => by kernel_rfl) ?_; clear hA ac; intro ac hA
         refine wpListIn_nil <| thenN <| wpIn_block ?_
         have hW := hW.share 1 rfl (H' := [Cel b112 #[vI .i64 0] 3, DefR D105, Cel b27 #[vS AoL23 l.length coL24, vS AoB25 g22.length coB26] 31, OrdR n11 n12 n13 l n14 n15 n16 n17 n18 n19 n20, Cel b3 #[vB false] 4]) rfl
         refine wp_range (encs := (fun x_ : Race × Nat => #[vI .i64 ((x_.2 : Nat) : Int), x_.1.v])) (Sx := (· = (raceL l).zipIdx)) hA (by kernel_rfl) (by kernel_rfl) (enters_of Tryz.func36 (by kernel_rfl) rfl) (by kernel_rfl) (fun _ => rfl) hIg41 (List.forall_mem_singleton.2 (List.mem_of_getElem? (i := 6) rfl)) (fun pre_ H_ => ∃ k : Nat, pre_ = (raceL l).zipIdx.take k ∧ k ≤ (raceL l).length ∧ H_ = [Cel b112 #[vI .i64 (k : Int)] 3]) (fun _ _ _ => False) (H := [Cel b112 #[vI .i64 0] 3]) (K := [DefR D105, Cel b27 #[vS AoL23 l.length coL24, vS AoB25 g22.length coB26] 31, OrdR n11 n12 n13 l n14 n15 n16 n17 n18 n19 n20, Cel b3 #[vB false] 4]) (hW.pick [0, 1, 2, 3, 4] (by decide) rfl) ⟨0, rfl, Nat.zero_le _, rfl⟩ ?_ ?_ ?_
         ·
          clear hA ac hW; intro l_115 rd_115 bs_115 pre_ x_ Hk_ w116 T_115 ac hrd_115 hbs_115 hbr_115 hok_ hJ_ hA hW hB_115 hT_115
          obtain ⟨k, rfl, hk_, rfl⟩ := hJ_
          obtain ⟨y117, rfl, hy117, hlty117, hsny117⟩ := comes_zip hok_ hk_
          replace hA : Fm 103 [] [(0, vS A_l l.length c_l), (1, vI .i64 many), (3, pA b1 0), (4, pA b3 0), (5, pA n11 0), (6, vI .i64 0), (7, pA b27 0), (8, vI .i64 0), (9, pA b36 0), (10, vF (.func 36) #[] lb40), (11, pA b108 0), (12, pA b112 0), (15, vS A_l l.length c_l), (16, vB (fewOk l (50))), (17, vB (!(fewOk l (50)))), (19, vT #[pA n11 0, vI .i64 0]), (20, vS A_l l.length c_l), (21, vT #[pA n11 0, vI .i64 0]), (22, pA n11 0), (23, vI .i64 0), (24, vT #[vA #[vS AoL23 l.length coL24, vS AoB25 g22.length coB26], vI .i64 0]), (25, vS A_l l.length c_l), (26, vT #[vA #[vS AoL23 l.length coL24, vS AoB25 g22.length coB26], vI .i64 0]), (27, vA #[vS AoL23 l.length coL24, vS AoB25 g22.length coB26]), (28, vI .i64 0), (29, vI .i64 0), (30, vI .i64 (0)), (31, vI .i64 0), (32, vB (((0) : Int) != (0 : Int))), (33, vA #[vS AoL23 l.length coL24, vS AoB25 g22.length coB26]), (34, vS A33 (raceL l).length c34), (35, pA n11 0), (36, vF (.func 36) #[] lb40), (37, vF (.func 36) #[] lb40), (38, vB false), (39, vB false), (40, pA n11 0), (41, vB (decide ((raceL l).length = 0))), (42, vS A33 (raceL l).length c34), (43, vI .i64 (((raceL l).length : Nat) : Int)), (44, vB (((((raceL l).length : Nat) : Int) : Int) == (0 : Int))), (45, vB (!((decide ((raceL l).length = 0)) == (((((raceL l).length : Nat) : Int) : Int) == (0 : Int))))), (46, vB (!((decide ((raceL l).length = 0)) == (((((raceL l).length : Nat) : Int) : Int) == (0 : Int))))), (47, vI .i64 1), (48, vB true), (49, vI .i64 0), (50, vI .i64 1), (51, vF (.func 36) #[] lb40), (52, vI .i64 (k : Int)), (53, y117.v), (80, vI .i64 0), (81, vB true), (82, vB true), (84, vS A33 (raceL l).length c34), (85, vI .i64 (((raceL l).length : Nat) : Int)), (86, vI .i64 many), (87, vI .i64 (max (1 : Int) (many : Int))), (88, vI .i64 (min ((((raceL l).length : Nat) : Int) : Int) (max (1 : Int) (many : Int) : Int))), (89, vB false), (90, vB false), (91, vB false), (92, vI .i64 0), (93, vB false), (94, vB false), (99, vB false), (100, vB false), (101, vI .i64 0)] ac := hA.sub (by and_intros <;> first | kernel_rfl | trivial)
          refine wpIn_seq <| wpIn_region_lit <| st_rdF (v := vI .i64 (k : Int)) hA (by kernel_rfl) (by kernel_rfl) (by kernel_rfl) (by kernel_rfl) hW.cls (Rd.pure fun _ => by kernel_rfl) ?_; clear hA ac; intro ac hA
          refine wpListIn_nil <| thenN <| wpIn_region_lit <| stF hA (by kernel_rfl) (by kernel_rfl) (by kernel_rfl) (by kernel_rfl) (RunsF.of (Runs.cells (fun b => pA b 0) #[vI .i64 0, vI .i64 0, vI .u32 0, vI .i64 0, vI .i64 0, vI .i64 0, vI .i64 0] 47 (fun _ => by kernel_rfl) hW ?_)); clear hA ac hW; intro b118 w119 hW hb118 hfw119 ac hA
          refine stF hA (by kernel_rfl) (by kernel_rfl) (by kernel_rfl) (by kernel_rfl) (RunsF.of (Runs.store (v := y117.v) (b := b118) (j := 0) (n := 7) (cs' := #[vI .i64 y117.i, vI .i64 y117.j, vI .u32 y117.addr, vI .i64 y117.p.a.f, vI .i64 y117.p.a.pc, vI .i64 y117.p.b.f, vI .i64 y117.p.b.pc]) (H' := [Cel b118 #[vI .i64 y117.i, vI .i64 y117.j, vI .u32 y117.addr, vI .i64 y117.p.a.f, vI .i64 y117.p.a.pc, vI .i64 y117.p.b.f, vI .i64 y117.p.b.pc] 47, rd_115, Cel b112 #[vI .i64 (k : Int)] 3]) (by kernel_rfl) (by kernel_rfl) (by kernel_rfl) (by kernel_rfl) (by kernel_rfl) hW 0 (by rfl) (Nat.le_of_ble_eq_true (by kernel_rfl)) (by kernel_rfl) (by rfl) ?_)); clear hA ac hW; intro w120 hW ac hA
          refine wpListIn_nil <| thenN <| begun (bs := bs_115) (H' := [Cel b118 #[vI .i64 y117.i, vI .i64 y117.j, vI .u32 y117.addr, vI .i64 y117.p.a.f, vI .i64 y117.p.a.pc, vI .i64 y117.p.b.f, vI .i64 y117.p.b.pc] 47, bs_115, Cel b112 #[vI .i64 (k : Int)] 3]) hW 1 rfl (fun b hb => by rw [hbs_115] at hb; rw [hrd_115]; exact hb) rfl ?_; clear hW; intro w121 hW
          refine wpIn_block <| wpIn_seq <| wpIn_seq <| q_regionF (by kernel_rfl) (by kernel_rfl) (by kernel_rfl) hW <| sq_p (vI .i64 (k : Int)) hA fun ac hA => sq_q (vI .i64 (k : Int)) hA (rl b112 0 2) fun ac hA => sq_p (vB ((k : Int) != (k : Int))) hA fun ac hA => sq_p (vB ((k : Int) != (k : Int))) hA fun ac hA => ?_
          rcases Bool.eq_false_or_eq_true ((k : Int) != (k : Int)) with h122 | h122
          ·
           rw [h122] at hA
           have h122 := bne_iff_ne.1 h122
           first
           | (exfalso; clear hA hW; omega)
           | (exfalso; clear hA hW; exact h122 rfl; done)
           | (
            fail)
          rw [h122] at hA
          have h122 := of_bne_f h122
          first
          | (exfalso; clear hA hW; omega)
          | (exfalso; clear hA hW; exact h122 rfl; done)
          | (
           refine sq_q (vI .i64 (k : Int)) hA (rl b112 0 2) fun ac hA => sq_q (vS A33 (raceL l).length c34) hA (Rd.load (b := b36) (i := 0) (by kernel_rfl) (fun _ hw => show _ = _ from (hw.1).getG 3 rfl) (by kernel_rfl)) fun ac hA => sq_p (vI .i64 (((raceL l).length : Nat) : Int)) hA fun ac hA => sq_p (vB (decide ((k : Int) ≥ ((((raceL l).length : Nat) : Int) : Int)))) hA fun ac hA => sq_p (vB (decide ((k : Int) ≥ ((((raceL l).length : Nat) : Int) : Int)))) hA fun ac hA => sq_p (vB (decide ((k : Int) ≥ ((((raceL l).length : Nat) : Int) : Int)))) hA fun ac hA => ?_
           rcases Bool.eq_false_or_eq_true (decide ((k : Int) ≥ ((((raceL l).length : Nat) : Int) : Int))) with h123 | h123
           ·
            rw [h123] at hA
            have h123 := of_decide_eq_true h123
            first
            | (exfalso; clear hA hW; omega)
            | (exfalso; clear hA hW; exact h123 rfl; done)
            | (
             fail)
           rw [h123] at hA
           have h123 := of_decide_eq_false h123
           first
           | (exfalso; clear hA hW; omega)
           | (exfalso; clear hA hW; exact h123 rfl; done)
           | (
            refine sq_q (vA #[vI .i64 y117.i, vI .i64 y117.j, vI .u32 y117.addr, vI .i64 y117.p.a.f, vI .i64 y117.p.a.pc, vI .i64 y117.p.b.f, vI .i64 y117.p.b.pc]) hA (rl b118 0 0) fun ac hA => sq_q (vS A33 (raceL l).length c34) hA (Rd.load (b := b36) (i := 0) (by kernel_rfl) (fun _ hw => show _ = _ from (hw.1).getG 3 rfl) (by kernel_rfl)) fun ac hA => sq_q (vI .i64 (k : Int)) hA (rl b112 0 2) fun ac hA => ?_
            obtain ⟨b124, o125, rfl, hbb124⟩ := row_some ((hW).getG 4 rfl) hy117
            refine sq_q (vP (some ⟨b124, o125 + k * 7, none⟩)) hA (Rd.indexAddr (e := 47) (sz := 7) (b := b124) (off := o125) (n := (raceL l).length) (c := c34) (k := k) (by kernel_rfl) (by kernel_rfl) (by first | omega | (simp; done) | (simp; omega)) (fun _ => by kernel_rfl) (fun _ => by kernel_rfl)) fun ac hA => sq_q (vA #[vI .i64 y117.i, vI .i64 y117.j, vI .u32 y117.addr, vI .i64 y117.p.a.f, vI .i64 y117.p.a.pc, vI .i64 y117.p.b.f, vI .i64 y117.p.b.pc]) hA (Rd.loadRow (b := b124) (i := o125 + k * 7) (xs := [vI .i64 y117.i, vI .i64 y117.j, vI .u32 y117.addr, vI .i64 y117.p.a.f, vI .i64 y117.p.a.pc, vI .i64 y117.p.b.f, vI .i64 y117.p.b.pc]) (by kernel_rfl) (fun _ hw => row_ld ((hw.1).getG 4 rfl) hy117 (Fr.refl No _) (fun h => h) 0 7 (by kernel_rfl)) (by kernel_rfl)) fun ac hA => sq_q (vB (!decide (y117 = y117))) hA (Rd.neS (u := y117.v) (v := y117.v) (by kernel_rfl) (by kernel_rfl) rfl rfl (by kernel_rfl) (fun w => eq_Race w y117 y117)) fun ac hA => sq_p (vB (!decide (y117 = y117))) hA fun ac hA => sq_nil ?_; intro w126 hww126; have hW := hww126.1; have hfw126 := hww126.2; clear hww126
            refine thenN <| wpIn_cond_split (t := !decide (y117 = y117)) (hA.eval (by kernel_rfl)) (fun h127 => ?_) (fun h127 => ?_)
            ·
             have h127 := not_t h127
             have h127 := of_decide_eq_false h127
             have h127e := fun e => h127 ((Race.eqi _ _).2 e)
             first
             | (exfalso; clear hA hW; omega)
             | (exfalso; clear hA hW; exact h127 rfl; done)
             | (
              fail)
            have h127 := not_f h127
            have h127 := of_decide_eq_true h127
            have h127e := (Race.eqi _ _).1 h127
            first
            | (exfalso; clear hA hW; omega)
            | (exfalso; clear hA hW; exact h127 rfl; done)
            | (
             refine wpIn_skip <| thenN <| wpIn_seq <| wpIn_region_lit <| st_rdF (v := vI .i64 (k : Int)) hA (by kernel_rfl) (by kernel_rfl) (by kernel_rfl) (by kernel_rfl) hW.cls (rl b112 0 2) ?_; clear hA ac; intro ac hA
             refine st_rdF (v := vI .i64 ((k + 1 : Nat) : Int)) hA (by kernel_rfl) (by kernel_rfl) (by kernel_rfl) (by kernel_rfl) hW.cls (Rd.pureE (v0 := vI .i64 (IntKind.i64.wrap ((k : Int) + 1))) (fun _ => by kernel_rfl) (congrArg (vI .i64) ((w_i64 (x := (k : Int) + 1) (by omega) (by omega)).trans (by omega)))) ?_; clear hA ac; intro ac hA
             refine stF hA (by kernel_rfl) (by kernel_rfl) (by kernel_rfl) (by kernel_rfl) (RunsF.of (Runs.store (v := vI .i64 ((k + 1 : Nat) : Int)) (b := b112) (j := 0) (n := 1) (cs' := #[vI .i64 ((k + 1 : Nat) : Int)]) (H' := [Cel b118 #[vI .i64 y117.i, vI .i64 y117.j, vI .u32 y117.addr, vI .i64 y117.p.a.f, vI .i64 y117.p.a.pc, vI .i64 y117.p.b.f, vI .i64 y117.p.b.pc] 47, bs_115, Cel b112 #[vI .i64 ((k + 1 : Nat) : Int)] 3]) (by kernel_rfl) (by kernel_rfl) (by kernel_rfl) (by kernel_rfl) (by kernel_rfl) hW 2 (by rfl) (Nat.le_of_ble_eq_true (by kernel_rfl)) (by kernel_rfl) (by rfl) ?_)); clear hA ac hW; intro w128 hW ac hA
             refine wpListIn_nil <| thenN <| wpIn_seq <| wpIn_region_lit <| st_rdF (v := vI .i64 1) hA (by kernel_rfl) (by kernel_rfl) (by kernel_rfl) (by kernel_rfl) hW.cls (Rd.load (b := b108) (i := 0) (by kernel_rfl) (fun _ hw => show _ = _ from (hw.1).getG 0 rfl) (by kernel_rfl)) ?_; clear hA ac; intro ac hA
             refine st_rdF (v := vB false) hA (by kernel_rfl) (by kernel_rfl) (by kernel_rfl) (by kernel_rfl) hW.cls (Rd.pure fun _ => by kernel_rfl) ?_; clear hA ac; intro ac hA
             refine st_rdF (v := vB false) hA (by kernel_rfl) (by kernel_rfl) (by kernel_rfl) (by kernel_rfl) hW.cls (Rd.pure fun _ => by kernel_rfl) ?_; clear hA ac; intro ac hA
             refine st_skipF hA (by kernel_rfl) (by kernel_rfl) ?_; clear hA ac; intro ac hA
             refine st_skipF hA (by kernel_rfl) (by kernel_rfl) ?_; clear hA ac; intro ac hA
             refine st_skipF hA (by kernel_rfl) (by kernel_rfl) ?_; clear hA ac; intro ac hA
             refine st_rdF (v := vB false) hA (by kernel_rfl) (by kernel_rfl) (by kernel_rfl) (by kernel_rfl) hW.cls (Rd.pure fun _ => by kernel_rfl) ?_; clear hA ac; intro ac hA
             refine wpListIn_nil <| thenN <| wpIn_cond_false (hA.eval (by kernel_rfl)) <| wpIn_skip <| blkN ?_
             exact ⟨_, ⟨k + 1, hsny117, hlty117, rfl⟩, (hW.pick [1, 2] (by decide) rfl).pickG [0, 1, 2, 3, 4, 5, 6, 7, 8, 9, 10] rfl⟩)))
         ·
          clear hA ac hW; intro D129 xs_ Hk_ w130 ac hS_ hJ_ hA hW
          obtain ⟨k, hpre_, hk_, rfl⟩ := hJ_
          have hke : k = (raceL l).length := by have := congrArg List.length (hS_.symm.trans hpre_); simp at this; omega
          clear hpre_ hS_
          replace hW : Ws w No [Cel b112 #[vI .i64 (k : Int)] 3, DefR D129, DefR D105, Cel b27 #[vS AoL23 l.length coL24, vS AoB25 g22.length coB26] 31, OrdR n11 n12 n13 l n14 n15 n16 n17 n18 n19 n20, Cel b3 #[vB false] 4] [Cel b108 #[vI .i64 1] 3, Cel b44 #[vI .i64 0] 3, Cel b1 #[vI .i64 many] 3, Cel b36 #[vS A33 (raceL l).length c34] 35, roR A33 7 enRace (raceL l), rowR 47 7 enRace (vS A33 (raceL l).length c34) (raceL l), g41, nestR innerBV g22, roR AoB25 1 enBV g22, roR AoL23 9 enEvent l, roR A_l 9 enEvent l] w130 := hW
          refine blkN <| thenN <| wpIn_seq <| wpIn_region_lit <| st_rdF (v := vI .i64 1) hA (by kernel_rfl) (by kernel_rfl) (by kernel_rfl) (by kernel_rfl) hW.cls (Rd.load (b := b108) (i := 0) (by kernel_rfl) (fun _ hw => show _ = _ from (hw.1).getG 0 rfl) (by kernel_rfl)) ?_; clear hA ac; intro ac hA
          refine st_rdF (v := vB false) hA (by kernel_rfl) (by kernel_rfl) (by kernel_rfl) (by kernel_rfl) hW.cls (Rd.pure fun _ => by kernel_rfl) ?_; clear hA ac; intro ac hA
          refine st_rdF (v := vB false) hA (by kernel_rfl) (by kernel_rfl) (by kernel_rfl) (by kernel_rfl) hW.cls (Rd.pure fun _ => by kernel_rfl) ?_; clear hA ac; intro ac hA
          refine st_skipF hA (by kernel_rfl) (by kernel_rfl) ?_; clear hA ac; intro ac hA
          refine st_skipF hA (by kernel_rfl) (by kernel_rfl) ?_; clear hA ac; intro ac hA
          refine st_skipF hA (by kernel_rfl) (by kernel_rfl) ?_; clear hA ac; intro ac hA
          refine st_skipF hA (by kernel_rfl) (by kernel_rfl) ?_; clear hA ac; intro ac hA
          refine st_skipF hA (by kernel_rfl) (by kernel_rfl) ?_; clear hA ac; intro ac hA
          refine st_skipF hA (by kernel_rfl) (by kernel_rfl) ?_; clear hA ac; intro ac hA
          refine st_skipF hA (by kernel_rfl) (by kernel_rfl) ?_; clear hA ac; intro ac hA
          refine st_rdF (v := vB false) hA (by kernel_rfl) (by kernel_rfl) (by kernel_rfl) (by kernel_rfl) hW.cls (Rd.pure fun _ => by kernel_rfl) ?_; clear hA ac; intro ac hA
          refine st_rdF (v := vB false) hA (by kernel_rfl) (by kernel_rfl) (by kernel_rfl) (by kernel_rfl) hW.cls (Rd.pure fun _ => by kernel_rfl) ?_; clear hA ac; intro ac hA
          refine st_rdF (v := vI .i64 1) hA (by kernel_rfl) (by kernel_rfl) (by kernel_rfl) (by kernel_rfl) hW.cls (Rd.load (b := b108) (i := 0) (by kernel_rfl) (fun _ hw => show _ = _ from (hw.1).getG 0 rfl) (by kernel_rfl)) ?_; clear hA ac; intro ac hA
          refine st_rdF (v := vB true) hA (by kernel_rfl) (by kernel_rfl) (by kernel_rfl) (by kernel_rfl) hW.cls (Rd.pure fun _ => by kernel_rfl) ?_; clear hA ac; intro ac hA
          refine st_rdF (v := vB true) hA (by kernel_rfl) (by kernel_rfl) (by kernel_rfl) (by kernel_rfl) hW.cls (Rd.pure fun _ => by kernel_rfl) ?_; clear hA ac; intro ac hA
          refine st_rdF (v := vI .i64 (k : Int)) hA (by kernel_rfl) (by kernel_rfl) (by kernel_rfl) (by kernel_rfl) hW.cls (rl b112 0 0) ?_; clear hA ac; intro ac hA
          refine st_rdF (v := vS A33 (raceL l).length c34) hA (by kernel_rfl) (by kernel_rfl) (by kernel_rfl) (by kernel_rfl) hW.cls (Rd.load (b := b36) (i := 0) (by kernel_rfl) (fun _ hw => show _ = _ from (hw.1).getG 3 rfl) (by kernel_rfl)) ?_; clear hA ac; intro ac hA
          refine st_rdF (v := vI .i64 (((raceL l).length : Nat) : Int)) hA (by kernel_rfl) (by kernel_rfl) (by kernel_rfl) (by kernel_rfl) hW.cls (Rd.pure fun _ => by kernel_rfl) ?_; clear hA ac; intro ac hA
          refine st_rdF (v := vB ((k : Int) != ((((raceL l).length : Nat) : Int) : Int))) hA (by kernel_rfl) (by kernel_rfl) (by kernel_rfl) (by kernel_rfl) hW.cls (Rd.pure fun _ => by kernel_rfl) ?_; clear hA ac; intro ac hA
          refine st_rdF (v := vB ((k : Int) != ((((raceL l).length : Nat) : Int) : Int))) hA (by kernel_rfl) (by kernel_rfl) (by kernel_rfl) (by kernel_rfl) hW.cls (Rd.pure fun _ => by kernel_rfl) ?_; clear hA ac; intro ac hA
          refine st_rdF (v := vB ((k : Int) != ((((raceL l).length : Nat) : Int) : Int))) hA (by kernel_rfl) (by kernel_rfl) (by kernel_rfl) (by kernel_rfl) hW.cls (Rd.pure fun _ => by kernel_rfl) ?_; clear hA ac; intro ac hA
          refine wpListIn_nil <| thenN <| wpIn_cond_split (t := (k : Int) != ((((raceL l).length : Nat) : Int) : Int)) (hA.eval (by kernel_rfl)) (fun h131 => ?_) (fun h131 => ?_)
          ·
           have h131 := bne_iff_ne.1 h131
           first
           | (exfalso; clear hA hW; omega)
           | (exfalso; clear hA hW; exact h131 rfl; done)
           | (
            refine wpIn_seq <| wpIn_region_lit <| stF hA (by kernel_rfl) (by kernel_rfl) (by kernel_rfl) (by kernel_rfl) (RunsF.of (Runs.store (v := vB false) (b := b3) (j := 0) (n := 1) (cs' := #[vB false]) (H' := [Cel b112 #[vI .i64 (k : Int)] 3, DefR D129, DefR D105, Cel b27 #[vS AoL23 l.length coL24, vS AoB25 g22.length coB26] 31, OrdR n11 n12 n13 l n14 n15 n16 n17 n18 n19 n20, Cel b3 #[vB false] 4]) (by kernel_rfl) (by kernel_rfl) (by kernel_rfl) (by kernel_rfl) (by kernel_rfl) hW 5 (by rfl) (Nat.le_of_ble_eq_true (by kernel_rfl)) (by kernel_rfl) (by rfl) ?_)); clear hA ac hW; intro w132 hW ac hA
            refine wpListIn_nil <| thenN <| wpIn_ret <| blkR <| thenR <| thenR <| blkR <| thenR <| retF (.inl rfl) hA <| leaveD (H' := [Cel b112 #[vI .i64 (k : Int)] 3, DefR D105, Cel b27 #[vS AoL23 l.length coL24, vS AoB25 g22.length coB26] 31, OrdR n11 n12 n13 l n14 n15 n16 n17 n18 n19 n20, Cel b3 #[vB false] 4]) hW 1 rfl rfl ?_; clear hW; intro w133 hW
            refine leaveD (H' := [Cel b112 #[vI .i64 (k : Int)] 3, Cel b27 #[vS AoL23 l.length coL24, vS AoB25 g22.length coB26] 31, OrdR n11 n12 n13 l n14 n15 n16 n17 n18 n19 n20, Cel b3 #[vB false] 4]) hW 1 rfl rfl ?_; clear hW; intro w134 hW
            refine leave1 (v := vB false) (by rfl) (GotF.cell (b := b3) (i := 0) hA (by kernel_rfl) (by kernel_rfl) (hW.cel 3 rfl) (by kernel_rfl)) ?_
            clear hA
            exact ⟨retv (by rfl), hW.fr⟩)
          have h131 := of_bne_f h131
          first
          | (exfalso; clear hA hW; omega)
          | (exfalso; clear hA hW; exact h131 rfl; done)
          | (
           refine wpIn_skip <| blkN <| thenN <| wpIn_seq <| wpIn_seq <| wpIn_region_lit <| st_rdF (v := vI .i64 1) hA (by kernel_rfl) (by kernel_rfl) (by kernel_rfl) (by kernel_rfl) hW.cls (Rd.load (b := b108) (i := 0) (by kernel_rfl) (fun _ hw => show _ = _ from (hw.1).getG 0 rfl) (by kernel_rfl)) ?_; clear hA ac; intro ac hA
           refine wpListIn_nil <| thenN <| wpIn_region_lit <| stF hA (by kernel_rfl) (by kernel_rfl) (by kernel_rfl) (by kernel_rfl) (RunsF.of (Runs.cells (fun b => pA b 0) #[vI .i64 0] 3 (fun _ => by kernel_rfl) hW ?_)); clear hA ac hW; intro b135 w136 hW hb135 hfw136 ac hA
           refine stF hA (by kernel_rfl) (by kernel_rfl) (by kernel_rfl) (by kernel_rfl) (RunsF.of (Runs.store (v := vI .i64 1) (b := b135) (j := 0) (n := 1) (cs' := #[vI .i64 1]) (H' := [Cel b135 #[vI .i64 1] 3, Cel b112 #[vI .i64 (k : Int)] 3, DefR D129, DefR D105, Cel b27 #[vS AoL23 l.length coL24, vS AoB25 g22.length coB26] 31, OrdR n11 n12 n13 l n14 n15 n16 n17 n18 n19 n20, Cel b3 #[vB false] 4]) (by kernel_rfl) (by kernel_rfl) (by kernel_rfl) (by kernel_rfl) (by kernel_rfl) hW 0 (by rfl) (Nat.le_of_ble_eq_true (by kernel_rfl)) (by kernel_rfl) (by rfl) ?_)); clear hA ac hW; intro w137 hW ac hA
           refine wpListIn_nil <| thenN <| wpIn_region_lit <| st_rdF (v := vI .i64 1) hA (by kernel_rfl) (by kernel_rfl) (by kernel_rfl) (by kernel_rfl) hW.cls (rl b135 0 0) ?_; clear hA ac; intro ac hA
           refine st_rdF (v := vI .i64 2) hA (by kernel_rfl) (by kernel_rfl) (by kernel_rfl) (by kernel_rfl) hW.cls (Rd.pureE (v0 := vI .i64 (IntKind.i64.wrap ((1 : Int) + 1))) (fun _ => by kernel_rfl) (congrArg (vI .i64) ((w_i64 (x := (1 : Int) + 1) (by omega) (by omega)).trans (by omega)))) ?_; clear hA ac; intro ac hA
           refine stF hA (by kernel_rfl) (by kernel_rfl) (by kernel_rfl) (by kernel_rfl) (RunsF.of (Runs.store (v := vI .i64 2) (b := b135) (j := 0) (n := 1) (cs' := #[vI .i64 2]) (H' := [Cel b135 #[vI .i64 2] 3, Cel b112 #[vI .i64 (k : Int)] 3, DefR D129, DefR D105, Cel b27 #[vS AoL23 l.length coL24, vS AoB25 g22.length coB26] 31, OrdR n11 n12 n13 l n14 n15 n16 n17 n18 n19 n20, Cel b3 #[vB false] 4]) (by kernel_rfl) (by kernel_rfl) (by kernel_rfl) (by kernel_rfl) (by kernel_rfl) hW 0 (by rfl) (Nat.le_of_ble_eq_true (by kernel_rfl)) (by kernel_rfl) (by rfl) ?_)); clear hA ac hW; intro w138 hW ac hA
           refine wpListIn_nil <| thenN ?_
           rw [roundsIn_succ]
           refine wpIn_seq <| wpIn_seq <| wpIn_region_lit <| st_rdF (v := vI .i64 2) hA (by kernel_rfl) (by kernel_rfl) (by kernel_rfl) (by kernel_rfl) hW.cls (rl b135 0 0) ?_; clear hA ac; intro ac hA
           refine st_rdF (v := vB false) hA (by kernel_rfl) (by kernel_rfl) (by kernel_rfl) (by kernel_rfl) hW.cls (Rd.pure fun _ => by kernel_rfl) ?_; clear hA ac; intro ac hA
           refine wpListIn_nil <| thenN <| wpIn_cond_false (hA.eval (by kernel_rfl)) <| wpIn_exit <| thenX <| thenX <| blkX <| thenN <| wpIn_seq <| wpIn_region_lit <| stF hA (by kernel_rfl) (by kernel_rfl) (by kernel_rfl) (by kernel_rfl) (RunsF.of (Runs.callN (v := vB true) (fun _ => by kernel_rfl) hW (e_works w138) ?_)); clear hA ac hW; intro w139 hW hfw139 ac hA
           refine stF hA (by kernel_rfl) (by kernel_rfl) (by kernel_rfl) (by kernel_rfl) (RunsF.of (Runs.store (v := vB true) (b := b3) (j := 0) (n := 1) (cs' := #[vB true]) (H' := [Cel b135 #[vI .i64 2] 3, Cel b112 #[vI .i64 (k : Int)] 3, DefR D129, DefR D105, Cel b27 #[vS AoL23 l.length coL24, vS AoB25 g22.length coB26] 31, OrdR n11 n12 n13 l n14 n15 n16 n17 n18 n19 n20, Cel b3 #[vB true] 4]) (by kernel_rfl) (by kernel_rfl) (by kernel_rfl) (by kernel_rfl) (by kernel_rfl) hW 6 (by rfl) (Nat.le_of_ble_eq_true (by kernel_rfl)) (by kernel_rfl) (by rfl) ?_)); clear hA ac hW; intro w140 hW ac hA
           refine wpListIn_nil <| thenN <| wpIn_ret <| retF (.inl rfl) hA <| leaveD (H' := [Cel b135 #[vI .i64 2] 3, Cel b112 #[vI .i64 (k : Int)] 3, DefR D105, Cel b27 #[vS AoL23 l.length coL24, vS AoB25 g22.length coB26] 31, OrdR n11 n12 n13 l n14 n15 n16 n17 n18 n19 n20, Cel b3 #[vB true] 4]) hW 2 rfl rfl ?_; clear hW; intro w141 hW
           refine leaveD (H' := [Cel b135 #[vI .i64 2] 3, Cel b112 #[vI .i64 (k : Int)] 3, Cel b27 #[vS AoL23 l.length coL24, vS AoB25 g22.length coB26] 31, OrdR n11 n12 n13 l n14 n15 n16 n17 n18 n19 n20, Cel b3 #[vB true] 4]) hW 2 rfl rfl ?_; clear hW; intro w142 hW
           refine leave1 (v := vB true) (by rfl) (GotF.cell (b := b3) (i := 0) hA (by kernel_rfl) (by kernel_rfl) (hW.cel 4 rfl) (by kernel_rfl)) ?_
           clear hA
           exact ⟨retv (by rfl), hW.fr⟩)
         ·
          clear hA ac hW; intro D143 c_ pre_ Hk_ w144 ac hJ_ hA hW
          exact hJ_.elim))))
  have h9 := of_decide_eq_false h9
  first
  | (exfalso; clear hA hW; omega)
  | (exfalso; clear hA hW; exact h9 rfl; done)
  | (
   have hfl_ := few_len (show fewOk l 50 = true from h6)
   have hfl_ := few_len (show fewOk l 50 = true from h6)
   refine wpIn_region_lit <| st_rdF (v := vS A_l l.length c_l) hA (by kernel_rfl) (by kernel_rfl) (by kernel_rfl) (by kernel_rfl) hW.cls (Rd.pure fun _ => by kernel_rfl) ?_; clear hA ac; intro ac hA
   refine stF hA (by kernel_rfl) (by kernel_rfl) (by kernel_rfl) (by kernel_rfl) (RunsF.of (Runs.callN (v := vT #[vP none, vI .i64 (newErr l)]) (fun _ => by kernel_rfl) hW (e_onewB A_l c_l l w5 ((hW).getG 0 rfl) (by first | assumption | omega | (simp; omega) | simp) (by assumption) (fun x hx => (hel x hx).2)) ?_)); clear hA ac hW; intro w145 hW hfw145 ac hA
   refine st_rdF (v := vT #[vP none, vI .i64 (newErr l)]) hA (by kernel_rfl) (by kernel_rfl) (by kernel_rfl) (by kernel_rfl) hW.cls (Rd.pure fun _ => by kernel_rfl) ?_; clear hA ac; intro ac hA
   refine st_rdF (v := vP none) hA (by kernel_rfl) (by kernel_rfl) (by kernel_rfl) (by kernel_rfl) hW.cls (Rd.pure fun _ => by kernel_rfl) ?_; clear hA ac; intro ac hA
   refine st_rdF (v := vI .i64 (newErr l)) hA (by kernel_rfl) (by kernel_rfl) (by kernel_rfl) (by kernel_rfl) hW.cls (Rd.pure fun _ => by kernel_rfl) ?_; clear hA ac; intro ac hA
   refine st_rdF (v := vP none) hA (by kernel_rfl) (by kernel_rfl) (by kernel_rfl) (by kernel_rfl) hW.cls (Rd.pure fun _ => by kernel_rfl) ?_; clear hA ac; intro ac hA
   refine st_rdF (v := vI .i64 (newErr l)) hA (by kernel_rfl) (by kernel_rfl) (by kernel_rfl) (by kernel_rfl) hW.cls (Rd.pure fun _ => by kernel_rfl) ?_; clear hA ac; intro ac hA
   refine wpListIn_nil <| thenN <| wpIn_seq ?_
   have hne_ := newErr_rng l
   refine wpIn_region_lit <| st_rdF (v := vS A_l l.length c_l) hA (by kernel_rfl) (by kernel_rfl) (by kernel_rfl) (by kernel_rfl) hW.cls (Rd.pure fun _ => by kernel_rfl) ?_; clear hA ac; intro ac hA
   refine stF hA (by kernel_rfl) (by kernel_rfl) (by kernel_rfl) (by kernel_rfl) (RunsF.of (Runs.callN (v := vT #[vA #[vS none 0 0, vS none 0 0], vI .i64 (newErr l)]) (fun _ => by kernel_rfl) hW (e_rnewB A_l c_l l w145 ((hW).getG 0 rfl) (by first | assumption | omega | (simp; omega) | simp) (by assumption) hl hel) ?_)); clear hA ac hW; intro w146 hW hfw146 ac hA
   refine st_rdF (v := vT #[vA #[vS none 0 0, vS none 0 0], vI .i64 (newErr l)]) hA (by kernel_rfl) (by kernel_rfl) (by kernel_rfl) (by kernel_rfl) hW.cls (Rd.pure fun _ => by kernel_rfl) ?_; clear hA ac; intro ac hA
   refine st_rdF (v := vA #[vS none 0 0, vS none 0 0]) hA (by kernel_rfl) (by kernel_rfl) (by kernel_rfl) (by kernel_rfl) hW.cls (Rd.pure fun _ => by kernel_rfl) ?_; clear hA ac; intro ac hA
   refine st_rdF (v := vI .i64 (newErr l)) hA (by kernel_rfl) (by kernel_rfl) (by kernel_rfl) (by kernel_rfl) hW.cls (Rd.pure fun _ => by kernel_rfl) ?_; clear hA ac; intro ac hA
   refine stF hA (by kernel_rfl) (by kernel_rfl) (by kernel_rfl) (by kernel_rfl) (RunsF.of (Runs.cells (fun b => pA b 0) #[vS none 0 0, vS none 0 0] 31 (fun _ => by kernel_rfl) hW ?_)); clear hA ac hW; intro b147 w148 hW hb147 hfw148 ac hA
   refine stF hA (by kernel_rfl) (by kernel_rfl) (by kernel_rfl) (by kernel_rfl) (RunsF.of (Runs.store (v := vA #[vS none 0 0, vS none 0 0]) (b := b147) (j := 0) (n := 2) (cs' := #[vS none 0 0, vS none 0 0]) (H' := [Cel b147 #[vS none 0 0, vS none 0 0] 31, Cel b3 #[vB false] 4, Cel b1 #[vI .i64 many] 3]) (by kernel_rfl) (by kernel_rfl) (by kernel_rfl) (by kernel_rfl) (by kernel_rfl) hW 0 (by rfl) (Nat.le_of_ble_eq_true (by kernel_rfl)) (by kernel_rfl) (by rfl) ?_)); clear hA ac hW; intro w149 hW ac hA
   refine st_rdF (v := vI .i64 (newErr l)) hA (by kernel_rfl) (by kernel_rfl) (by kernel_rfl) (by kernel_rfl) hW.cls (Rd.pure fun _ => by kernel_rfl) ?_; clear hA ac; intro ac hA
   refine wpListIn_nil <| thenN <| wpIn_seq <| wpIn_seq <| wpIn_region_lit <| st_rdF (v := vI .i64 (newErr l)) hA (by kernel_rfl) (by kernel_rfl) (by kernel_rfl) (by kernel_rfl) hW.cls (Rd.pure fun _ => by kernel_rfl) ?_; clear hA ac; intro ac hA
   refine stF hA (by kernel_rfl) (by kernel_rfl) (by kernel_rfl) (by kernel_rfl) (RunsF.of (Runs.callN (v := vI .i64 (newErr l)) (fun _ => by kernel_rfl) hW (e_num (newErr l) w149) ?_)); clear hA ac hW; intro w150 hW hfw150 ac hA
   refine st_rdF (v := vI .i64 (newErr l)) hA (by kernel_rfl) (by kernel_rfl) (by kernel_rfl) (by kernel_rfl) hW.cls (Rd.pure fun _ => by kernel_rfl) ?_; clear hA ac; intro ac hA
   refine st_rdF (v := vB (((newErr l) : Int) != (newErr l : Int))) hA (by kernel_rfl) (by kernel_rfl) (by kernel_rfl) (by kernel_rfl) hW.cls (Rd.pure fun _ => by kernel_rfl) ?_; clear hA ac; intro ac hA
   refine wpListIn_nil <| thenN <| wpIn_cond_split (t := ((newErr l) : Int) != (newErr l : Int)) (hA.eval (by kernel_rfl)) (fun h151 => ?_) (fun h151 => ?_)
   ·
    have h151 := bne_iff_ne.1 h151
    first
    | (exfalso; clear hA hW; omega)
    | (exfalso; clear hA hW; exact h151 rfl; done)
    | (
     fail)
   have h151 := of_bne_f h151
   first
   | (exfalso; clear hA hW; omega)
   | (exfalso; clear hA hW; exact h151 rfl; done)
   | (
    refine wpIn_skip <| thenN <| wpIn_seq ?_
    have hr0_ : (raceL []).length = 0 := rfl; have hn0_ : ([] : List Race).length = 0 := rfl
    refine wpIn_region_lit <| st_rdF (v := vA #[vS none 0 0, vS none 0 0]) hA (by kernel_rfl) (by kernel_rfl) (by kernel_rfl) (by kernel_rfl) hW.cls (rl b147 0 0) ?_; clear hA ac; intro ac hA
    have hW := hW.nestNil innerBV
    have hknq152 : ∀ x_ ∈ ([] : List BV), capBV x_ := all_nil
    refine stF hA (by kernel_rfl) (by kernel_rfl) (by kernel_rfl) (by kernel_rfl) (RunsF.of (Runs.callRow (E := 47) (sz := 7) (en := enRace) (l := (raceL ([] : List Event))) (fun _ => by kernel_rfl) hW (e_r21all none 0 ([] : List Event) none 0 ([] : List BV) w150 (RowAt.nil' _ _) (by first | assumption | omega | (simp; omega) | simp) (RowAt.nil' _ _) (by first | assumption | omega | (simp; omega) | simp) ((hW).getG 0 rfl) hknq152 (by first | omega | (simp; done)) (by first | exact hev | (simp; done)) (by first | exact hBr_ | rfl) (by first | omega | (simp; done))) ?_)); clear hA ac hW; intro A154 c155 w153 hW hcc155 hfw153 ac hA
    refine stF hA (by kernel_rfl) (by kernel_rfl) (by kernel_rfl) (by kernel_rfl) (RunsF.of (Runs.cells (fun b => pA b 0) #[vS none 0 0] 35 (fun _ => by kernel_rfl) hW ?_)); clear hA ac hW; intro b157 w158 hW hb157 hfw158 ac hA
    refine stF hA (by kernel_rfl) (by kernel_rfl) (by kernel_rfl) (by kernel_rfl) (RunsF.of (Runs.store (v := vS A154 (raceL ([] : List Event)).length c155) (b := b157) (j := 0) (n := 1) (cs' := #[vS A154 (raceL ([] : List Event)).length c155]) (H' := [Cel b157 #[vS A154 (raceL ([] : List Event)).length c155] 35, rowR 47 7 enRace (vS A154 (raceL ([] : List Event)).length c155) (raceL ([] : List Event)), Cel b147 #[vS none 0 0, vS none 0 0] 31, Cel b3 #[vB false] 4, Cel b1 #[vI .i64 many] 3]) (by kernel_rfl) (by kernel_rfl) (by kernel_rfl) (by kernel_rfl) (by kernel_rfl) hW 0 (by rfl) (Nat.le_of_ble_eq_true (by kernel_rfl)) (by kernel_rfl) (by rfl) ?_)); clear hA ac hW; intro w159 hW ac hA
    refine wpListIn_nil <| thenN <| wpIn_seq <| wpIn_region_lit <| st_rdF (v := vP none) hA (by kernel_rfl) (by kernel_rfl) (by kernel_rfl) (by kernel_rfl) hW.cls (Rd.pure fun _ => by kernel_rfl) ?_; clear hA ac; intro ac hA
    refine stF hA (by kernel_rfl) (by kernel_rfl) (by kernel_rfl) (by kernel_rfl) (RunsF.of (Runs.call (fun _ => by kernel_rfl) (e_rAll_n w159) ?_))
    rintro _ w160 ⟨lb161, g162, rfl, hIg162, hfg162, hfw160⟩; refine ⟨_, rfl, ?_⟩; have hW0 := hW; have hW := hW0.call hfw160; have hW := hW0.addFromAt hW hfg162 in_nil; clear hW0 hA ac; intro ac hA
    refine st_rdF (v := vF (.func 36) #[] lb161) hA (by kernel_rfl) (by kernel_rfl) (by kernel_rfl) (by kernel_rfl) hW.cls (Rd.pure fun _ => by kernel_rfl) ?_; clear hA ac; intro ac hA
    refine wpListIn_nil <| thenN <| wpIn_seq <| wpIn_seq <| q_regionF (by kernel_rfl) (by kernel_rfl) (by kernel_rfl) hW <| sq_p (vF (.func 36) #[] lb161) hA fun ac hA => sq_p (vB false) hA fun ac hA => sq_p (vB false) hA fun ac hA => sq_p (vP none) hA fun ac hA => sq_call (v := vB true) hA (by kernel_rfl) (by kernel_rfl) (by kernel_rfl) (fun _ => by kernel_rfl) (Cls.callNC fun wx hwx => e_rFree_n wx) ?_; clear hA ac; intro ac hA
    refine sq_q (vS A154 (raceL ([] : List Event)).length c155) hA (rl b157 0 0) fun ac hA => sq_p (vI .i64 (((raceL ([] : List Event)).length : Nat) : Int)) hA fun ac hA => sq_p (vB (((((raceL ([] : List Event)).length : Nat) : Int) : Int) == (0 : Int))) hA fun ac hA => sq_p (vB (!(true == (((((raceL ([] : List Event)).length : Nat) : Int) : Int) == (0 : Int))))) hA fun ac hA => sq_p (vB (!(true == (((((raceL ([] : List Event)).length : Nat) : Int) : Int) == (0 : Int))))) hA fun ac hA => sq_nil ?_; intro w163 hww163; have hW := hww163.1; have hfw163 := hww163.2; clear hww163
    refine thenN <| wpIn_cond_split (t := !(true == (((((raceL ([] : List Event)).length : Nat) : Int) : Int) == (0 : Int)))) (hA.eval (by kernel_rfl)) (fun h164 => ?_) (fun h164 => ?_)
    ·
     have h164 := bbne_t h164
     first
     | (exfalso; clear hA hW; omega)
     | (exfalso; clear hA hW; exact h164 rfl; done)
     | (exfalso; clear hA hW; exact h164 (by first | rfl | decide); done)
     | (exfalso; clear hA hW; exact h164 (by rw [Bool.eq_iff_iff]; simp); done)
     | (
      fail)
    have h164 := bbne_f h164
    first
    | (exfalso; clear hA hW; omega)
    | (exfalso; clear hA hW; exact h164 rfl; done)
    | (exfalso; clear hA hW; exact h164 (by first | rfl | decide); done)
    | (exfalso; clear hA hW; exact h164 (by rw [Bool.eq_iff_iff]; simp); done)
    | (
     refine wpIn_skip <| thenN <| wpIn_seq <| wpIn_seq <| wpIn_region_lit <| stF hA (by kernel_rfl) (by kernel_rfl) (by kernel_rfl) (by kernel_rfl) (RunsF.of (Runs.cells (fun b => pA b 0) #[vI .i64 0] 3 (fun _ => by kernel_rfl) hW ?_)); clear hA ac hW; intro b165 w166 hW hb165 hfw166 ac hA
     refine stF hA (by kernel_rfl) (by kernel_rfl) (by kernel_rfl) (by kernel_rfl) (RunsF.of (Runs.store (v := vI .i64 0) (b := b165) (j := 0) (n := 1) (cs' := #[vI .i64 0]) (H' := [Cel b165 #[vI .i64 0] 3, Cel b157 #[vS A154 (raceL ([] : List Event)).length c155] 35, rowR 47 7 enRace (vS A154 (raceL ([] : List Event)).length c155) (raceL ([] : List Event)), Cel b147 #[vS none 0 0, vS none 0 0] 31, Cel b3 #[vB false] 4, Cel b1 #[vI .i64 many] 3]) (by kernel_rfl) (by kernel_rfl) (by kernel_rfl) (by kernel_rfl) (by kernel_rfl) hW 0 (by rfl) (Nat.le_of_ble_eq_true (by kernel_rfl)) (by kernel_rfl) (by rfl) ?_)); clear hA ac hW; intro w167 hW ac hA
     refine wpListIn_nil <| thenN <| wpIn_block <| wpIn_loop_rounds 3 ?_
     rw [roundsIn_succ]
     refine wpIn_seq <| wpIn_seq <| wpIn_region_lit <| st_rdF (v := vI .i64 0) hA (by kernel_rfl) (by kernel_rfl) (by kernel_rfl) (by kernel_rfl) hW.cls (rl b165 0 0) ?_; clear hA ac; intro ac hA
     refine st_rdF (v := vB true) hA (by kernel_rfl) (by kernel_rfl) (by kernel_rfl) (by kernel_rfl) hW.cls (Rd.pure fun _ => by kernel_rfl) ?_; clear hA ac; intro ac hA
     refine wpListIn_nil <| thenN <| wpIn_cond_true (hA.eval (by kernel_rfl)) <| wpIn_skip <| thenN <| wpIn_seq <| wpIn_block <| wpIn_seq <| wpIn_region_lit <| stF hA (by kernel_rfl) (by kernel_rfl) (by kernel_rfl) (by kernel_rfl) (RunsF.of (Runs.cells (fun b => pA b 0) #[vI .i64 0] 3 (fun _ => by kernel_rfl) hW ?_)); clear hA ac hW; intro b168 w169 hW hb168 hfw169 ac hA
     refine stF hA (by kernel_rfl) (by kernel_rfl) (by kernel_rfl) (by kernel_rfl) (RunsF.of (Runs.store (v := vI .i64 0) (b := b168) (j := 0) (n := 1) (cs' := #[vI .i64 0]) (H' := [Cel b168 #[vI .i64 0] 3, Cel b165 #[vI .i64 0] 3, Cel b157 #[vS A154 (raceL ([] : List Event)).length c155] 35, rowR 47 7 enRace (vS A154 (raceL ([] : List Event)).length c155) (raceL ([] : List Event)), Cel b147 #[vS none 0 0, vS none 0 0] 31, Cel b3 #[vB false] 4, Cel b1 #[vI .i64 many] 3]) (by kernel_rfl) (by kernel_rfl) (by kernel_rfl) (by kernel_rfl) (by kernel_rfl) hW 0 (by rfl) (Nat.le_of_ble_eq_true (by kernel_rfl)) (by kernel_rfl) (by rfl) ?_)); clear hA ac hW; intro w170 hW ac hA
     refine wpListIn_nil <| thenN <| wpIn_seq <| wpIn_seq ?_
     have hW := hW.share 3 rfl (H' := [Cel b168 #[vI .i64 0] 3, Cel b165 #[vI .i64 0] 3, Cel b157 #[vS A154 (raceL ([] : List Event)).length c155] 35, Cel b147 #[vS none 0 0, vS none 0 0] 31, Cel b3 #[vB false] 4, Cel b1 #[vI .i64 many] 3]) rfl
     have hW := hW.nestG (roR A154 7 enRace (raceL ([] : List Event))) (rowR_at (E := 47) (hW.getG 0 rfl) elt_Race.len) (fun _ hb_ => ⟨_, List.mem_of_getElem? (i := 0) rfl, rowR_fp _ hb_⟩)
     have hW := hW.share 2 rfl (H' := [Cel b168 #[vI .i64 0] 3, Cel b165 #[vI .i64 0] 3, Cel b147 #[vS none 0 0, vS none 0 0] 31, Cel b3 #[vB false] 4, Cel b1 #[vI .i64 many] 3]) rfl
     replace hW : Ws w No [Cel b168 #[vI .i64 0] 3, Cel b165 #[vI .i64 0] 3, Cel b147 #[vS none 0 0, vS none 0 0] 31, Cel b3 #[vB false] 4, Cel b1 #[vI .i64 many] 3] [Cel b157 #[vS A154 (raceL ([] : List Event)).length c155] 35, roR A154 7 enRace (raceL ([] : List Event)), rowR 47 7 enRace (vS A154 (raceL ([] : List Event)).length c155) (raceL ([] : List Event)), g162, nestR innerBV ([] : List BV), roR A_l 9 enEvent l] w170 := hW
     refine wpIn_region_lit <| st_rdF (v := vF (.func 36) #[] lb161) hA (by kernel_rfl) (by kernel_rfl) (by kernel_rfl) (by kernel_rfl) hW.cls (Rd.pure fun _ => by kernel_rfl) ?_; clear hA ac; intro ac hA
     refine wpListIn_nil <| thenN <| wpIn_block ?_
     have hW := hW.share 4 rfl (H' := [Cel b168 #[vI .i64 0] 3, Cel b165 #[vI .i64 0] 3, Cel b147 #[vS none 0 0, vS none 0 0] 31, Cel b3 #[vB false] 4]) rfl
     have hW := hW.share 1 rfl (H' := [Cel b168 #[vI .i64 0] 3, Cel b147 #[vS none 0 0, vS none 0 0] 31, Cel b3 #[vB false] 4]) rfl
     refine wp_range (encs := (fun x_ : Race × Nat => #[vI .i64 ((x_.2 : Nat) : Int), x_.1.v])) (Sx := (· = ([] : List Race).zipIdx)) hA (by kernel_rfl) (by kernel_rfl) (enters_of Tryz.func36 (by kernel_rfl) rfl) (by kernel_rfl) (fun _ => rfl) hIg162 (List.forall_mem_singleton.2 (List.mem_of_getElem? (i := 5) rfl)) (fun pre_ H_ => ∃ k : Nat, pre_ = ([] : List Race).zipIdx.take k ∧ k ≤ ([] : List Race).length ∧ H_ = [Cel b168 #[vI .i64 0] 3]) (fun _ _ _ => False) (H := [Cel b168 #[vI .i64 0] 3]) (K := [Cel b147 #[vS none 0 0, vS none 0 0] 31, Cel b3 #[vB false] 4]) (hW.pick [0, 1, 2] (by decide) rfl) ⟨0, rfl, Nat.zero_le _, rfl⟩ ?_ ?_ ?_
     ·
      clear hA ac hW; intro l_171 rd_171 bs_171 pre_ x_ Hk_ w172 T_171 ac hrd_171 hbs_171 hbr_171 hok_ hJ_ hA hW hB_171 hT_171
      obtain ⟨k, rfl, hk_, rfl⟩ := hJ_
      obtain ⟨y173, rfl, hy173, hlty173, hsny173⟩ := comes_zip hok_ hk_
      replace hA : Fm 103 [] [(0, vS A_l l.length c_l), (1, vI .i64 many), (3, pA b1 0), (4, pA b3 0), (5, vP none), (6, vI .i64 (newErr l)), (7, pA b147 0), (8, vI .i64 (newErr l)), (9, pA b157 0), (10, vF (.func 36) #[] lb161), (11, pA b165 0), (12, pA b168 0), (15, vS A_l l.length c_l), (16, vB (fewOk l (50))), (17, vB (!(fewOk l (50)))), (19, vT #[vP none, vI .i64 (newErr l)]), (20, vS A_l l.length c_l), (21, vT #[vP none, vI .i64 (newErr l)]), (22, vP none), (23, vI .i64 (newErr l)), (24, vT #[vA #[vS none 0 0, vS none 0 0], vI .i64 (newErr l)]), (25, vS A_l l.length c_l), (26, vT #[vA #[vS none 0 0, vS none 0 0], vI .i64 (newErr l)]), (27, vA #[vS none 0 0, vS none 0 0]), (28, vI .i64 (newErr l)), (29, vI .i64 (newErr l)), (30, vI .i64 (newErr l)), (31, vI .i64 (newErr l)), (32, vB (((newErr l) : Int) != (newErr l : Int))), (33, vA #[vS none 0 0, vS none 0 0]), (34, vS A154 (raceL ([] : List Event)).length c155), (35, vP none), (36, vF (.func 36) #[] lb161), (37, vF (.func 36) #[] lb161), (38, vB false), (39, vB false), (40, vP none), (41, vB true), (42, vS A154 (raceL ([] : List Event)).length c155), (43, vI .i64 (((raceL ([] : List Event)).length : Nat) : Int)), (44, vB (((((raceL ([] : List Event)).length : Nat) : Int) : Int) == (0 : Int))), (45, vB (!(true == (((((raceL ([] : List Event)).length : Nat) : Int) : Int) == (0 : Int))))), (46, vB (!(true == (((((raceL ([] : List Event)).length : Nat) : Int) : Int) == (0 : Int))))), (47, vI .i64 0), (48, vB true), (51, vF (.func 36) #[] lb161), (52, vI .i64 (k : Int)), (53, y173.v)] ac := hA.sub (by and_intros <;> first | kernel_rfl | trivial)
      simp at hy173
     ·
      clear hA ac hW; intro D174 xs_ Hk_ w175 ac hS_ hJ_ hA hW
      obtain ⟨k, hpre_, hk_, rfl⟩ := hJ_
      have hke : k = ([] : List Race).length := by have h_ : k ≤ 0 := hk_; show k = 0; omega
      clear hpre_ hS_
      replace hW : Ws w No [Cel b168 #[vI .i64 0] 3, DefR D174, Cel b147 #[vS none 0 0, vS none 0 0] 31, Cel b3 #[vB false] 4] [Cel b165 #[vI .i64 0] 3, Cel b1 #[vI .i64 many] 3, Cel b157 #[vS A154 (raceL ([] : List Event)).length c155] 35, roR A154 7 enRace (raceL ([] : List Event)), rowR 47 7 enRace (vS A154 (raceL ([] : List Event)).length c155) (raceL ([] : List Event)), g162, nestR innerBV ([] : List BV), roR A_l 9 enEvent l] w175 := hW
      refine blkN <| thenN <| wpIn_seq <| wpIn_region_lit <| st_rdF (v := vI .i64 0) hA (by kernel_rfl) (by kernel_rfl) (by kernel_rfl) (by kernel_rfl) hW.cls (Rd.load (b := b165) (i := 0) (by kernel_rfl) (fun _ hw => show _ = _ from (hw.1).getG 0 rfl) (by kernel_rfl)) ?_; clear hA ac; intro ac hA
      refine st_rdF (v := vB true) hA (by kernel_rfl) (by kernel_rfl) (by kernel_rfl) (by kernel_rfl) hW.cls (Rd.pure fun _ => by kernel_rfl) ?_; clear hA ac; intro ac hA
      refine st_rdF (v := vB true) hA (by kernel_rfl) (by kernel_rfl) (by kernel_rfl) (by kernel_rfl) hW.cls (Rd.pure fun _ => by kernel_rfl) ?_; clear hA ac; intro ac hA
      refine st_rdF (v := vI .i64 0) hA (by kernel_rfl) (by kernel_rfl) (by kernel_rfl) (by kernel_rfl) hW.cls (rl b168 0 0) ?_; clear hA ac; intro ac hA
      refine st_rdF (v := vS A154 (raceL ([] : List Event)).length c155) hA (by kernel_rfl) (by kernel_rfl) (by kernel_rfl) (by kernel_rfl) hW.cls (Rd.load (b := b157) (i := 0) (by kernel_rfl) (fun _ hw => show _ = _ from (hw.1).getG 2 rfl) (by kernel_rfl)) ?_; clear hA ac; intro ac hA
      refine st_rdF (v := vI .i64 (((raceL ([] : List Event)).length : Nat) : Int)) hA (by kernel_rfl) (by kernel_rfl) (by kernel_rfl) (by kernel_rfl) hW.cls (Rd.pure fun _ => by kernel_rfl) ?_; clear hA ac; intro ac hA
      refine st_rdF (v := vI .i64 many) hA (by kernel_rfl) (by kernel_rfl) (by kernel_rfl) (by kernel_rfl) hW.cls (Rd.load (b := b1) (i := 0) (by kernel_rfl) (fun _ hw => show _ = _ from (hw.1).getG 1 rfl) (by kernel_rfl)) ?_; clear hA ac; intro ac hA
      refine st_rdF (v := vI .i64 (max (1 : Int) (many : Int))) hA (by kernel_rfl) (by kernel_rfl) (by kernel_rfl) (by kernel_rfl) hW.cls (Rd.pureE (v0 := vI .i64 (if (many : Int) > (1 : Int) then (many : Int) else (1 : Int))) (fun _ => by kernel_rfl) (congrArg (vI .i64) (max_ _ _))) ?_; clear hA ac; intro ac hA
      refine st_rdF (v := vI .i64 (min ((((raceL ([] : List Event)).length : Nat) : Int) : Int) (max (1 : Int) (many : Int) : Int))) hA (by kernel_rfl) (by kernel_rfl) (by kernel_rfl) (by kernel_rfl) hW.cls (Rd.pureE (v0 := vI .i64 (if (max (1 : Int) (many : Int) : Int) < ((((raceL ([] : List Event)).length : Nat) : Int) : Int) then (max (1 : Int) (many : Int) : Int) else ((((raceL ([] : List Event)).length : Nat) : Int) : Int))) (fun _ => by kernel_rfl) (congrArg (vI .i64) (min_ _ _))) ?_; clear hA ac; intro ac hA
      refine st_rdF (v := vB ((0 : Int) != (min ((((raceL ([] : List Event)).length : Nat) : Int) : Int) (max (1 : Int) (many : Int) : Int) : Int))) hA (by kernel_rfl) (by kernel_rfl) (by kernel_rfl) (by kernel_rfl) hW.cls (Rd.pure fun _ => by kernel_rfl) ?_; clear hA ac; intro ac hA
      refine st_rdF (v := vB ((0 : Int) != (min ((((raceL ([] : List Event)).length : Nat) : Int) : Int) (max (1 : Int) (many : Int) : Int) : Int))) hA (by kernel_rfl) (by kernel_rfl) (by kernel_rfl) (by kernel_rfl) hW.cls (Rd.pure fun _ => by kernel_rfl) ?_; clear hA ac; intro ac hA
      refine st_rdF (v := vB ((0 : Int) != (min ((((raceL ([] : List Event)).length : Nat) : Int) : Int) (max (1 : Int) (many : Int) : Int) : Int))) hA (by kernel_rfl) (by kernel_rfl) (by kernel_rfl) (by kernel_rfl) hW.cls (Rd.pure fun _ => by kernel_rfl) ?_; clear hA ac; intro ac hA
      rcases Bool.eq_false_or_eq_true ((0 : Int) != (min ((((raceL ([] : List Event)).length : Nat) : Int) : Int) (max (1 : Int) (many : Int) : Int) : Int)) with h176 | h176
      ·
       rw [h176] at hA
       have h176 := bne_iff_ne.1 h176
       first
       | (exfalso; clear hA hW; omega)
       | (exfalso; clear hA hW; exact h176 rfl; done)
       | (
        fail)
      rw [h176] at hA
      have h176 := of_bne_f h176
      first
      | (exfalso; clear hA hW; omega)
      | (exfalso; clear hA hW; exact h176 rfl; done)
      | (
       refine st_rdF (v := vI .i64 0) hA (by kernel_rfl) (by kernel_rfl) (by kernel_rfl) (by kernel_rfl) hW.cls (Rd.load (b := b165) (i := 0) (by kernel_rfl) (fun _ hw => show _ = _ from (hw.1).getG 0 rfl) (by kernel_rfl)) ?_; clear hA ac; intro ac hA
       refine st_rdF (v := vB false) hA (by kernel_rfl) (by kernel_rfl) (by kernel_rfl) (by kernel_rfl) hW.cls (Rd.pure fun _ => by kernel_rfl) ?_; clear hA ac; intro ac hA
       refine st_rdF (v := vB false) hA (by kernel_rfl) (by kernel_rfl) (by kernel_rfl) (by kernel_rfl) hW.cls (Rd.pure fun _ => by kernel_rfl) ?_; clear hA ac; intro ac hA
       refine st_skipF hA (by kernel_rfl) (by kernel_rfl) ?_; clear hA ac; intro ac hA
       refine st_skipF hA (by kernel_rfl) (by kernel_rfl) ?_; clear hA ac; intro ac hA
       refine st_skipF hA (by kernel_rfl) (by kernel_rfl) ?_; clear hA ac; intro ac hA
       refine st_skipF hA (by kernel_rfl) (by kernel_rfl) ?_; clear hA ac; intro ac hA
       refine st_rdF (v := vB false) hA (by kernel_rfl) (by kernel_rfl) (by kernel_rfl) (by kernel_rfl) hW.cls (Rd.pure fun _ => by kernel_rfl) ?_; clear hA ac; intro ac hA
       refine st_rdF (v := vB false) hA (by kernel_rfl) (by kernel_rfl) (by kernel_rfl) (by kernel_rfl) hW.cls (Rd.pure fun _ => by kernel_rfl) ?_; clear hA ac; intro ac hA
       refine wpListIn_nil <| thenN <| wpIn_cond_false (hA.eval (by kernel_rfl)) <| wpIn_skip <| blkN <| thenN <| wpIn_seq <| wpIn_seq <| wpIn_region_lit <| st_rdF (v := vI .i64 0) hA (by kernel_rfl) (by kernel_rfl) (by kernel_rfl) (by kernel_rfl) hW.cls (Rd.load (b := b165) (i := 0) (by kernel_rfl) (fun _ hw => show _ = _ from (hw.1).getG 0 rfl) (by kernel_rfl)) ?_; clear hA ac; intro ac hA
       refine wpListIn_nil <| thenN <| wpIn_region_lit <| stF hA (by kernel_rfl) (by kernel_rfl) (by kernel_rfl) (by kernel_rfl) (RunsF.of (Runs.cells (fun b => pA b 0) #[vI .i64 0] 3 (fun _ => by kernel_rfl) hW ?_)); clear hA ac hW; intro b177 w178 hW hb177 hfw178 ac hA
       refine stF hA (by kernel_rfl) (by kernel_rfl) (by kernel_rfl) (by kernel_rfl) (RunsF.of (Runs.store (v := vI .i64 0) (b := b177) (j := 0) (n := 1) (cs' := #[vI .i64 0]) (H' := [Cel b177 #[vI .i64 0] 3, Cel b168 #[vI .i64 0] 3, DefR D174, Cel b147 #[vS none 0 0, vS none 0 0] 31, Cel b3 #[vB false] 4]) (by kernel_rfl) (by kernel_rfl) (by kernel_rfl) (by kernel_rfl) (by kernel_rfl) hW 0 (by rfl) (Nat.le_of_ble_eq_true (by kernel_rfl)) (by kernel_rfl) (by rfl) ?_)); clear hA ac hW; intro w179 hW ac hA
       refine wpListIn_nil <| thenN <| wpIn_region_lit <| st_rdF (v := vI .i64 0) hA (by kernel_rfl) (by kernel_rfl) (by kernel_rfl) (by kernel_rfl) hW.cls (rl b177 0 0) ?_; clear hA ac; intro ac hA
       refine st_rdF (v := vI .i64 1) hA (by kernel_rfl) (by kernel_rfl) (by kernel_rfl) (by kernel_rfl) hW.cls (Rd.pureE (v0 := vI .i64 (IntKind.i64.wrap ((0 : Int) + 1))) (fun _ => by kernel_rfl) (congrArg (vI .i64) ((w_i64 (x := (0 : Int) + 1) (by omega) (by omega)).trans (by omega)))) ?_; clear hA ac; intro ac hA
       refine stF hA (by kernel_rfl) (by kernel_rfl) (by kernel_rfl) (by kernel_rfl) (RunsF.of (Runs.store (v := vI .i64 1) (b := b177) (j := 0) (n := 1) (cs' := #[vI .i64 1]) (H' := [Cel b177 #[vI .i64 1] 3, Cel b168 #[vI .i64 0] 3, DefR D174, Cel b147 #[vS none 0 0, vS none 0 0] 31, Cel b3 #[vB false] 4]) (by kernel_rfl) (by kernel_rfl) (by kernel_rfl) (by kernel_rfl) (by kernel_rfl) hW 0 (by rfl) (Nat.le_of_ble_eq_true (by kernel_rfl)) (by kernel_rfl) (by rfl) ?_)); clear hA ac hW; intro w180 hW ac hA
       refine wpListIn_nil <| thenN ?_
       rw [roundsIn_succ]
       refine wpIn_seq <| wpIn_seq <| wpIn_region_lit <| st_rdF (v := vI .i64 1) hA (by kernel_rfl) (by kernel_rfl) (by kernel_rfl) (by kernel_rfl) hW.cls (rl b177 0 0) ?_; clear hA ac; intro ac hA
       refine st_rdF (v := vB true) hA (by kernel_rfl) (by kernel_rfl) (by kernel_rfl) (by kernel_rfl) hW.cls (Rd.pure fun _ => by kernel_rfl) ?_; clear hA ac; intro ac hA
       refine wpListIn_nil <| thenN <| wpIn_cond_true (hA.eval (by kernel_rfl)) <| wpIn_skip <| thenN <| wpIn_seq <| wpIn_block <| wpIn_seq <| wpIn_region_lit <| stF hA (by kernel_rfl) (by kernel_rfl) (by kernel_rfl) (by kernel_rfl) (RunsF.of (Runs.cells (fun b => pA b 0) #[vI .i64 0] 3 (fun _ => by kernel_rfl) hW ?_)); clear hA ac hW; intro b181 w182 hW hb181 hfw182 ac hA
       refine stF hA (by kernel_rfl) (by kernel_rfl) (by kernel_rfl) (by kernel_rfl) (RunsF.of (Runs.store (v := vI .i64 0) (b := b181) (j := 0) (n := 1) (cs' := #[vI .i64 0]) (H' := [Cel b181 #[vI .i64 0] 3, Cel b177 #[vI .i64 1] 3, Cel b168 #[vI .i64 0] 3, DefR D174, Cel b147 #[vS none 0 0, vS none 0 0] 31, Cel b3 #[vB false] 4]) (by kernel_rfl) (by kernel_rfl) (by kernel_rfl) (by kernel_rfl) (by kernel_rfl) hW 0 (by rfl) (Nat.le_of_ble_eq_true (by kernel_rfl)) (by kernel_rfl) (by rfl) ?_)); clear hA ac hW; intro w183 hW ac hA
       refine wpListIn_nil <| thenN <| wpIn_seq <| wpIn_seq <| wpIn_region_lit <| st_rdF (v := vF (.func 36) #[] lb161) hA (by kernel_rfl) (by kernel_rfl) (by kernel_rfl) (by kernel_rfl) hW.cls (Rd.pure fun _ => by kernel_rfl) ?_; clear hA ac; intro ac hA
       refine wpListIn_nil <| thenN <| wpIn_block ?_
       have hW := hW.share 1 rfl (H' := [Cel b181 #[vI .i64 0] 3, Cel b168 #[vI .i64 0] 3, DefR D174, Cel b147 #[vS none 0 0, vS none 0 0] 31, Cel b3 #[vB false] 4]) rfl
       refine wp_range (encs := (fun x_ : Race × Nat => #[vI .i64 ((x_.2 : Nat) : Int), x_.1.v])) (Sx := (· = ([] : List Race).zipIdx)) hA (by kernel_rfl) (by kernel_rfl) (enters_of Tryz.func36 (by kernel_rfl) rfl) (by kernel_rfl) (fun _ => rfl) hIg162 (List.forall_mem_singleton.2 (List.mem_of_getElem? (i := 6) rfl)) (fun pre_ H_ => ∃ k : Nat, pre_ = ([] : List Race).zipIdx.take k ∧ k ≤ ([] : List Race).length ∧ H_ = [Cel b181 #[vI .i64 0] 3]) (fun _ _ _ => False) (H := [Cel b181 #[vI .i64 0] 3]) (K := [Cel b168 #[vI .i64 0] 3, DefR D174, Cel b147 #[vS none 0 0, vS none 0 0] 31, Cel b3 #[vB false] 4]) (hW.pick [0, 1, 2, 3, 4] (by decide) rfl) ⟨0, rfl, Nat.zero_le _, rfl⟩ ?_ ?_ ?_
       ·
        clear hA ac hW; intro l_184 rd_184 bs_184 pre_ x_ Hk_ w185 T_184 ac hrd_184 hbs_184 hbr_184 hok_ hJ_ hA hW hB_184 hT_184
        obtain ⟨k, rfl, hk_, rfl⟩ := hJ_
        obtain ⟨y186, rfl, hy186, hlty186, hsny186⟩ := comes_zip hok_ hk_
        replace hA : Fm 103 [] [(0, vS A_l l.length c_l), (1, vI .i64 many), (3, pA b1 0), (4, pA b3 0), (5, vP none), (6, vI .i64 (newErr l)), (7, pA b147 0), (8, vI .i64 (newErr l)), (9, pA b157 0), (10, vF (.func 36) #[] lb161), (11, pA b177 0), (12, pA b181 0), (15, vS A_l l.length c_l), (16, vB (fewOk l (50))), (17, vB (!(fewOk l (50)))), (19, vT #[vP none, vI .i64 (newErr l)]), (20, vS A_l l.length c_l), (21, vT #[vP none, vI .i64 (newErr l)]), (22, vP none), (23, vI .i64 (newErr l)), (24, vT #[vA #[vS none 0 0, vS none 0 0], vI .i64 (newErr l)]), (25, vS A_l l.length c_l), (26, vT #[vA #[vS none 0 0, vS none 0 0], vI .i64 (newErr l)]), (27, vA #[vS none 0 0, vS none 0 0]), (28, vI .i64 (newErr l)), (29, vI .i64 (newErr l)), (30, vI .i64 (newErr l)), (31, vI .i64 (newErr l)), (32, vB (((newErr l) : Int) != (newErr l : Int))), (33, vA #[vS none 0 0, vS none 0 0]), (34, vS A154 (raceL ([] : List Event)).length c155), (35, vP none), (36, vF (.func 36) #[] lb161), (37, vF (.func 36) #[] lb161), (38, vB false), (39, vB false), (40, vP none), (41, vB true), (42, vS A154 (raceL ([] : List Event)).length c155), (43, vI .i64 (((raceL ([] : List Event)).length : Nat) : Int)), (44, vB (((((raceL ([] : List Event)).length : Nat) : Int) : Int) == (0 : Int))), (45, vB (!(true == (((((raceL ([] : List Event)).length : Nat) : Int) : Int) == (0 : Int))))), (46, vB (!(true == (((((raceL ([] : List Event)).length : Nat) : Int) : Int) == (0 : Int))))), (47, vI .i64 1), (48, vB true), (49, vI .i64 0), (50, vI .i64 1), (51, vF (.func 36) #[] lb161), (52, vI .i64 (k : Int)), (53, y186.v), (80, vI .i64 0), (81, vB true), (82, vB true), (83, vI .i64 0), (84, vS A154 (raceL ([] : List Event)).length c155), (85, vI .i64 (((raceL ([] : List Event)).length : Nat) : Int)), (86, vI .i64 many), (87, vI .i64 (max (1 : Int) (many : Int))), (88, vI .i64 (min ((((raceL ([] : List Event)).length : Nat) : Int) : Int) (max (1 : Int) (many : Int) : Int))), (89, vB false), (90, vB false), (91, vB false), (92, vI .i64 0), (93, vB false), (94, vB false), (99, vB false), (100, vB false), (101, vI .i64 0)] ac := hA.sub (by and_intros <;> first | kernel_rfl | trivial)
        simp at hy186
       ·
        clear hA ac hW; intro D187 xs_ Hk_ w188 ac hS_ hJ_ hA hW
        obtain ⟨k, hpre_, hk_, rfl⟩ := hJ_
        have hke : k = ([] : List Race).length := by have h_ : k ≤ 0 := hk_; show k = 0; omega
        clear hpre_ hS_
        replace hW : Ws w No [Cel b181 #[vI .i64 0] 3, DefR D187, Cel b168 #[vI .i64 0] 3, DefR D174, Cel b147 #[vS none 0 0, vS none 0 0] 31, Cel b3 #[vB false] 4] [Cel b177 #[vI .i64 1] 3, Cel b165 #[vI .i64 0] 3, Cel b1 #[vI .i64 many] 3, Cel b157 #[vS A154 (raceL ([] : List Event)).length c155] 35, roR A154 7 enRace (raceL ([] : List Event)), rowR 47 7 enRace (vS A154 (raceL ([] : List Event)).length c155) (raceL ([] : List Event)), g162, nestR innerBV ([] : List BV), roR A_l 9 enEvent l] w188 := hW
        refine blkN <| thenN <| wpIn_seq <| wpIn_region_lit <| st_rdF (v := vI .i64 1) hA (by kernel_rfl) (by kernel_rfl) (by kernel_rfl) (by kernel_rfl) hW.cls (Rd.load (b := b177) (i := 0) (by kernel_rfl) (fun _ hw => show _ = _ from (hw.1).getG 0 rfl) (by kernel_rfl)) ?_; clear hA ac; intro ac hA
        refine st_rdF (v := vB false) hA (by kernel_rfl) (by kernel_rfl) (by kernel_rfl) (by kernel_rfl) hW.cls (Rd.pure fun _ => by kernel_rfl) ?_; clear hA ac; intro ac hA
        refine st_rdF (v := vB false) hA (by kernel_rfl) (by kernel_rfl) (by kernel_rfl) (by kernel_rfl) hW.cls (Rd.pure fun _ => by kernel_rfl) ?_; clear hA ac; intro ac hA
        refine st_skipF hA (by kernel_rfl) (by kernel_rfl) ?_; clear hA ac; intro ac hA
        refine st_skipF hA (by kernel_rfl) (by kernel_rfl) ?_; clear hA ac; intro ac hA
        refine st_skipF hA (by kernel_rfl) (by kernel_rfl) ?_; clear hA ac; intro ac hA
        refine st_skipF hA (by kernel_rfl) (by kernel_rfl) ?_; clear hA ac; intro ac hA
        refine st_skipF hA (by kernel_rfl) (by kernel_rfl) ?_; clear hA ac; intro ac hA
        refine st_skipF hA (by kernel_rfl) (by kernel_rfl) ?_; clear hA ac; intro ac hA
        refine st_skipF hA (by kernel_rfl) (by kernel_rfl) ?_; clear hA ac; intro ac hA
        refine st_rdF (v := vB false) hA (by kernel_rfl) (by kernel_rfl) (by kernel_rfl) (by kernel_rfl) hW.cls (Rd.pure fun _ => by kernel_rfl) ?_; clear hA ac; intro ac hA
        refine st_rdF (v := vB false) hA (by kernel_rfl) (by kernel_rfl) (by kernel_rfl) (by kernel_rfl) hW.cls (Rd.pure fun _ => by kernel_rfl) ?_; clear hA ac; intro ac hA
        refine st_rdF (v := vI .i64 1) hA (by kernel_rfl) (by kernel_rfl) (by kernel_rfl) (by kernel_rfl) hW.cls (Rd.load (b := b177) (i := 0) (by kernel_rfl) (fun _ hw => show _ = _ from (hw.1).getG 0 rfl) (by kernel_rfl)) ?_; clear hA ac; intro ac hA
        refine st_rdF (v := vB true) hA (by kernel_rfl) (by kernel_rfl) (by kernel_rfl) (by kernel_rfl) hW.cls (Rd.pure fun _ => by kernel_rfl) ?_; clear hA ac; intro ac hA
        refine st_rdF (v := vB true) hA (by kernel_rfl) (by kernel_rfl) (by kernel_rfl) (by kernel_rfl) hW.cls (Rd.pure fun _ => by kernel_rfl) ?_; clear hA ac; intro ac hA
        refine st_rdF (v := vI .i64 0) hA (by kernel_rfl) (by kernel_rfl) (by kernel_rfl) (by kernel_rfl) hW.cls (rl b181 0 0) ?_; clear hA ac; intro ac hA
        refine st_rdF (v := vS A154 (raceL ([] : List Event)).length c155) hA (by kernel_rfl) (by kernel_rfl) (by kernel_rfl) (by kernel_rfl) hW.cls (Rd.load (b := b157) (i := 0) (by kernel_rfl) (fun _ hw => show _ = _ from (hw.1).getG 3 rfl) (by kernel_rfl)) ?_; clear hA ac; intro ac hA
        refine st_rdF (v := vI .i64 (((raceL ([] : List Event)).length : Nat) : Int)) hA (by kernel_rfl) (by kernel_rfl) (by kernel_rfl) (by kernel_rfl) hW.cls (Rd.pure fun _ => by kernel_rfl) ?_; clear hA ac; intro ac hA
        refine st_rdF (v := vB ((0 : Int) != ((((raceL ([] : List Event)).length : Nat) : Int) : Int))) hA (by kernel_rfl) (by kernel_rfl) (by kernel_rfl) (by kernel_rfl) hW.cls (Rd.pure fun _ => by kernel_rfl) ?_; clear hA ac; intro ac hA
        refine st_rdF (v := vB ((0 : Int) != ((((raceL ([] : List Event)).length : Nat) : Int) : Int))) hA (by kernel_rfl) (by kernel_rfl) (by kernel_rfl) (by kernel_rfl) hW.cls (Rd.pure fun _ => by kernel_rfl) ?_; clear hA ac; intro ac hA
        refine st_rdF (v := vB ((0 : Int) != ((((raceL ([] : List Event)).length : Nat) : Int) : Int))) hA (by kernel_rfl) (by kernel_rfl) (by kernel_rfl) (by kernel_rfl) hW.cls (Rd.pure fun _ => by kernel_rfl) ?_; clear hA ac; intro ac hA
        refine wpListIn_nil <| thenN <| wpIn_cond_split (t := (0 : Int) != ((((raceL ([] : List Event)).length : Nat) : Int) : Int)) (hA.eval (by kernel_rfl)) (fun h189 => ?_) (fun h189 => ?_)
        ·
         have h189 := bne_iff_ne.1 h189
         first
         | (exfalso; clear hA hW; omega)
         | (exfalso; clear hA hW; exact h189 rfl; done)
         | (
          refine wpIn_seq <| wpIn_region_lit <| stF hA (by kernel_rfl) (by kernel_rfl) (by kernel_rfl) (by kernel_rfl) (RunsF.of (Runs.store (v := vB false) (b := b3) (j := 0) (n := 1) (cs' := #[vB false]) (H' := [Cel b181 #[vI .i64 0] 3, DefR D187, Cel b168 #[vI .i64 0] 3, DefR D174, Cel b147 #[vS none 0 0, vS none 0 0] 31, Cel b3 #[vB false] 4]) (by kernel_rfl) (by kernel_rfl) (by kernel_rfl) (by kernel_rfl) (by kernel_rfl) hW 5 (by rfl) (Nat.le_of_ble_eq_true (by kernel_rfl)) (by kernel_rfl) (by rfl) ?_)); clear hA ac hW; intro w190 hW ac hA
          refine wpListIn_nil <| thenN <| wpIn_ret <| blkR <| thenR <| thenR <| blkR <| thenR <| retF (.inl rfl) hA <| leaveD (H' := [Cel b181 #[vI .i64 0] 3, Cel b168 #[vI .i64 0] 3, DefR D174, Cel b147 #[vS none 0 0, vS none 0 0] 31, Cel b3 #[vB false] 4]) hW 1 rfl rfl ?_; clear hW; intro w191 hW
          refine leaveD (H' := [Cel b181 #[vI .i64 0] 3, Cel b168 #[vI .i64 0] 3, Cel b147 #[vS none 0 0, vS none 0 0] 31, Cel b3 #[vB false] 4]) hW 2 rfl rfl ?_; clear hW; intro w192 hW
          refine leave1 (v := vB false) (by rfl) (GotF.cell (b := b3) (i := 0) hA (by kernel_rfl) (by kernel_rfl) (hW.cel 3 rfl) (by kernel_rfl)) ?_
          clear hA
          exact ⟨retv (by rfl), hW.fr⟩)
        have h189 := of_bne_f h189
        first
        | (exfalso; clear hA hW; omega)
        | (exfalso; clear hA hW; exact h189 rfl; done)
        | (
         refine wpIn_skip <| blkN <| thenN <| wpIn_seq <| wpIn_seq <| wpIn_region_lit <| st_rdF (v := vI .i64 1) hA (by kernel_rfl) (by kernel_rfl) (by kernel_rfl) (by kernel_rfl) hW.cls (Rd.load (b := b177) (i := 0) (by kernel_rfl) (fun _ hw => show _ = _ from (hw.1).getG 0 rfl) (by kernel_rfl)) ?_; clear hA ac; intro ac hA
         refine wpListIn_nil <| thenN <| wpIn_region_lit <| stF hA (by kernel_rfl) (by kernel_rfl) (by kernel_rfl) (by kernel_rfl) (RunsF.of (Runs.cells (fun b => pA b 0) #[vI .i64 0] 3 (fun _ => by kernel_rfl) hW ?_)); clear hA ac hW; intro b193 w194 hW hb193 hfw194 ac hA
         refine stF hA (by kernel_rfl) (by kernel_rfl) (by kernel_rfl) (by kernel_rfl) (RunsF.of (Runs.store (v := vI .i64 1) (b := b193) (j := 0) (n := 1) (cs' := #[vI .i64 1]) (H' := [Cel b193 #[vI .i64 1] 3, Cel b181 #[vI .i64 0] 3, DefR D187, Cel b168 #[vI .i64 0] 3, DefR D174, Cel b147 #[vS none 0 0, vS none 0 0] 31, Cel b3 #[vB false] 4]) (by kernel_rfl) (by kernel_rfl) (by kernel_rfl) (by kernel_rfl) (by kernel_rfl) hW 0 (by rfl) (Nat.le_of_ble_eq_true (by kernel_rfl)) (by kernel_rfl) (by rfl) ?_)); clear hA ac hW; intro w195 hW ac hA
         refine wpListIn_nil <| thenN <| wpIn_region_lit <| st_rdF (v := vI .i64 1) hA (by kernel_rfl) (by kernel_rfl) (by kernel_rfl) (by kernel_rfl) hW.cls (rl b193 0 0) ?_; clear hA ac; intro ac hA
         refine st_rdF (v := vI .i64 2) hA (by kernel_rfl) (by kernel_rfl) (by kernel_rfl) (by kernel_rfl) hW.cls (Rd.pureE (v0 := vI .i64 (IntKind.i64.wrap ((1 : Int) + 1))) (fun _ => by kernel_rfl) (congrArg (vI .i64) ((w_i64 (x := (1 : Int) + 1) (by omega) (by omega)).trans (by omega)))) ?_; clear hA ac; intro ac hA
         refine stF hA (by kernel_rfl) (by kernel_rfl) (by kernel_rfl) (by kernel_rfl) (RunsF.of (Runs.store (v := vI .i64 2) (b := b193) (j := 0) (n := 1) (cs' := #[vI .i64 2]) (H' := [Cel b193 #[vI .i64 2] 3, Cel b181 #[vI .i64 0] 3, DefR D187, Cel b168 #[vI .i64 0] 3, DefR D174, Cel b147 #[vS none 0 0, vS none 0 0] 31, Cel b3 #[vB false] 4]) (by kernel_rfl) (by kernel_rfl) (by kernel_rfl) (by kernel_rfl) (by kernel_rfl) hW 0 (by rfl) (Nat.le_of_ble_eq_true (by kernel_rfl)) (by kernel_rfl) (by rfl) ?_)); clear hA ac hW; intro w196 hW ac hA
         refine wpListIn_nil <| thenN ?_
         rw [roundsIn_succ]
         refine wpIn_seq <| wpIn_seq <| wpIn_region_lit <| st_rdF (v := vI .i64 2) hA (by kernel_rfl) (by kernel_rfl) (by kernel_rfl) (by kernel_rfl) hW.cls (rl b193 0 0) ?_; clear hA ac; intro ac hA
         refine st_rdF (v := vB false) hA (by kernel_rfl) (by kernel_rfl) (by kernel_rfl) (by kernel_rfl) hW.cls (Rd.pure fun _ => by kernel_rfl) ?_; clear hA ac; intro ac hA
         refine wpListIn_nil <| thenN <| wpIn_cond_false (hA.eval (by kernel_rfl)) <| wpIn_exit <| thenX <| thenX <| blkX <| thenN <| wpIn_seq <| wpIn_region_lit <| stF hA (by kernel_rfl) (by kernel_rfl) (by kernel_rfl) (by kernel_rfl) (RunsF.of (Runs.callN (v := vB true) (fun _ => by kernel_rfl) hW (e_works w196) ?_)); clear hA ac hW; intro w197 hW hfw197 ac hA
         refine stF hA (by kernel_rfl) (by kernel_rfl) (by kernel_rfl) (by kernel_rfl) (RunsF.of (Runs.store (v := vB true) (b := b3) (j := 0) (n := 1) (cs' := #[vB true]) (H' := [Cel b193 #[vI .i64 2] 3, Cel b181 #[vI .i64 0] 3, DefR D187, Cel b168 #[vI .i64 0] 3, DefR D174, Cel b147 #[vS none 0 0, vS none 0 0] 31, Cel b3 #[vB true] 4]) (by kernel_rfl) (by kernel_rfl) (by kernel_rfl) (by kernel_rfl) (by kernel_rfl) hW 6 (by rfl) (Nat.le_of_ble_eq_true (by kernel_rfl)) (by kernel_rfl) (by rfl) ?_)); clear hA ac hW; intro w198 hW ac hA
         refine wpListIn_nil <| thenN <| wpIn_ret <| retF (.inl rfl) hA <| leaveD (H' := [Cel b193 #[vI .i64 2] 3, Cel b181 #[vI .i64 0] 3, Cel b168 #[vI .i64 0] 3, DefR D174, Cel b147 #[vS none 0 0, vS none 0 0] 31, Cel b3 #[vB true] 4]) hW 2 rfl rfl ?_; clear hW; intro w199 hW
         refine leaveD (H' := [Cel b193 #[vI .i64 2] 3, Cel b181 #[vI .i64 0] 3, Cel b168 #[vI .i64 0] 3, Cel b147 #[vS none 0 0, vS none 0 0] 31, Cel b3 #[vB true] 4]) hW 3 rfl rfl ?_; clear hW; intro w200 hW
         refine leave1 (v := vB true) (by rfl) (GotF.cell (b := b3) (i := 0) hA (by kernel_rfl) (by kernel_rfl) (hW.cel 4 rfl) (by kernel_rfl)) ?_
         clear hA
         exact ⟨retv (by rfl), hW.fr⟩)
       ·
        clear hA ac hW; intro D201 c_ pre_ Hk_ w202 ac hJ_ hA hW
        exact hJ_.elim)
     ·
      clear hA ac hW; intro D203 c_ pre_ Hk_ w204 ac hJ_ hA hW
      exact hJ_.elim))))

theorem raceAll_walk (A : Option Addr) (len cap : Nat) (l : List Event) (many : Int) (w : World) (hl : l.length = len) (hc : len ≤ cap) (hm : cap ≤ maxLen) (hw : ∀ x ∈ l, wfEvent x) (hr : RowAt w A 9 enEvent l) (hy : Lit.wf (.int .i64 many)) :
    Calls Tryz.prog 3 #[.slice A len cap, .int .i64 many] w fun e w' => e = .returned (.bool true) ∧ Fr No w w' := by
  subst hl
  exact e_raceAll A cap l many w hr hc (by have : maxLen ≤ 9223372036854775807 := by decide
                                           omega) (fun x hx => wf_event (hw x hx)) (by simpa [Lit.wf, IntKind.min, IntKind.max, IntKind.bits, IntKind.signed] using hy)

end Go.Proofs.YtfkbjfbbigbacaaGreatDoor.L
