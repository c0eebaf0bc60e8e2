/- Contracts, walked by program over the engine's laws. -/
import Derived.Test.YtfkbjfbbigbacaaGreatDoorProg
import Derived.Test.YtfkbjfbbigbacaaGreatDoorT21
namespace Go.Proofs.YtfkbjfbbigbacaaGreatDoor.L
open Go.RowKit
open Go.Value renaming int → vI, slice → vS, bool → vB, pointer → vP, func → vF, agg → vA, map → vM, tuple → vT

set_option maxHeartbeats 4000000 in
set_option maxRecDepth 100000 in
theorem e_raceHolds (A_l : Option Addr) (c_l : Nat) (l : List Event) (cut : Int) (w : World) (hr_l : RowAt w A_l 9 enEvent l) (hc_l : l.length ≤ c_l) (hl : l.length ≤ 9223372036854775807) (hel : ∀ x ∈ l, (-9223372036854775808 ≤ x.kind ∧ x.kind ≤ 9223372036854775807) ∧ 0 ≤ x.addr ∧ x.addr ≤ 4294967295) (hcu : -9223372036854775808 ≤ cut ∧ cut ≤ 9223372036854775807) : Calls Tryz.prog 4 #[vS A_l l.length c_l, vI .i64 cut] w (fun e w' => e = .returned (vB true) ∧ Fr No w w') := by
 have _hu := hc_l; have _hv := hr_l; clear _hu _hv
 have _hu := hl; clear _hu
 have _hu := hel; clear _hu
 have _hu := hcu; clear _hu
 refine enter_F 171 Tryz.func4 rfl rfl (by kernel_rfl) (L := [(0, vS A_l l.length c_l), (1, vI .i64 cut)]) (by kernel_rfl) ?_
 intro ac hA
 have hW := Ws.start w No
 have hW := hW.arg hr_l
 refine wpIn_seq <| wpIn_region_lit <| stF hA (by kernel_rfl) (by kernel_rfl) (by kernel_rfl) (by kernel_rfl) (RunsF.of (Runs.cells (fun b => pA b 0) #[vS A_l l.length c_l] 22 (fun _ => by kernel_rfl) hW ?_)); clear hA ac hW; intro b1 w2 hW hb1 hfw2 ac hA
 refine stF hA (by kernel_rfl) (by kernel_rfl) (by kernel_rfl) (by kernel_rfl) (RunsF.of (Runs.cells (fun b => pA b 0) #[vI .i64 cut] 3 (fun _ => by kernel_rfl) hW ?_)); clear hA ac hW; intro b3 w4 hW hb3 hfw4 ac hA
 refine stF hA (by kernel_rfl) (by kernel_rfl) (by kernel_rfl) (by kernel_rfl) (RunsF.of (Runs.cells (fun b => pA b 0) #[vB false] 4 (fun _ => by kernel_rfl) hW ?_)); clear hA ac hW; intro b5 w6 hW hb5 hfw6 ac hA
 refine wpListIn_nil <| thenN <| wpIn_seq <| wpIn_seq <| wpIn_region_lit <| st_rdF (v := vS A_l l.length c_l) hA (by kernel_rfl) (by kernel_rfl) (by kernel_rfl) (by kernel_rfl) hW.cls (rl b1 0 2) ?_; clear hA ac; intro ac hA
 refine stF hA (by kernel_rfl) (by kernel_rfl) (by kernel_rfl) (by kernel_rfl) (RunsF.of (Runs.callN (v := vB (fewOk l (50))) (fun _ => by kernel_rfl) hW (e_lfew A_l c_l l (50) w6 ((hW).getG 0 rfl) (by first | assumption | omega | (simp; omega) | simp) hl hel (by decide) (by decide)) ?_)); clear hA ac hW; intro w7 hW hfw7 ac hA
 refine st_rdF (v := vB (!(fewOk l (50)))) hA (by kernel_rfl) (by kernel_rfl) (by kernel_rfl) (by kernel_rfl) hW.cls (Rd.pure fun _ => by kernel_rfl) ?_; clear hA ac; intro ac hA
 refine st_rdF (v := vB (!(fewOk l (50)))) hA (by kernel_rfl) (by kernel_rfl) (by kernel_rfl) (by kernel_rfl) hW.cls (Rd.pure fun _ => by kernel_rfl) ?_; clear hA ac; intro ac hA
 rcases Bool.eq_false_or_eq_true (!(fewOk l (50))) with h8 | h8
 ·
  rw [h8] at hA
  have h8 := not_t h8
  first
  | (exfalso; clear hA hW; omega)
  | (
   refine st_skipF hA (by kernel_rfl) (by kernel_rfl) ?_; clear hA ac; intro ac hA
   refine st_skipF hA (by kernel_rfl) (by kernel_rfl) ?_; clear hA ac; intro ac hA
   refine st_rdF (v := vB true) hA (by kernel_rfl) (by kernel_rfl) (by kernel_rfl) (by kernel_rfl) hW.cls (Rd.pure fun _ => by kernel_rfl) ?_; clear hA ac; intro ac hA
   refine st_rdF (v := vB true) hA (by kernel_rfl) (by kernel_rfl) (by kernel_rfl) (by kernel_rfl) hW.cls (Rd.pure fun _ => by kernel_rfl) ?_; clear hA ac; intro ac hA
   refine st_skipF hA (by kernel_rfl) (by kernel_rfl) ?_; clear hA ac; intro ac hA
   refine st_skipF hA (by kernel_rfl) (by kernel_rfl) ?_; clear hA ac; intro ac hA
   refine st_skipF hA (by kernel_rfl) (by kernel_rfl) ?_; clear hA ac; intro ac hA
   refine st_skipF hA (by kernel_rfl) (by kernel_rfl) ?_; clear hA ac; intro ac hA
   refine st_rdF (v := vB true) hA (by kernel_rfl) (by kernel_rfl) (by kernel_rfl) (by kernel_rfl) hW.cls (Rd.pure fun _ => by kernel_rfl) ?_; clear hA ac; intro ac hA
   refine wpListIn_nil <| thenN <| wpIn_cond_true (hA.eval (by kernel_rfl)) <| wpIn_seq <| wpIn_region_lit <| stF hA (by kernel_rfl) (by kernel_rfl) (by kernel_rfl) (by kernel_rfl) (RunsF.of (Runs.callN (v := vB true) (fun _ => by kernel_rfl) hW (e_works w7) ?_)); clear hA ac hW; intro w9 hW hfw9 ac hA
   refine stF hA (by kernel_rfl) (by kernel_rfl) (by kernel_rfl) (by kernel_rfl) (RunsF.of (Runs.store (v := vB true) (b := b5) (j := 0) (n := 1) (cs' := #[vB true]) (H' := [Cel b5 #[vB true] 4, Cel b3 #[vI .i64 cut] 3, Cel b1 #[vS A_l l.length c_l] 22]) (by kernel_rfl) (by kernel_rfl) (by kernel_rfl) (by kernel_rfl) (by kernel_rfl) hW 0 (by rfl) (Nat.le_of_ble_eq_true (by kernel_rfl)) (by kernel_rfl) (by rfl) ?_)); clear hA ac hW; intro w10 hW ac hA
   refine wpListIn_nil <| thenN <| wpIn_ret <| thenR <| retF (.inl rfl) hA <| leave1 (v := vB true) (by rfl) (GotF.cell (b := b5) (i := 0) hA (by kernel_rfl) (by kernel_rfl) (hW.cel 0 rfl) (by kernel_rfl)) ?_
   clear hA
   exact ⟨retv (by rfl), hW.fr⟩)
 rw [h8] at hA
 have h8 := not_f h8
 first
 | (exfalso; clear hA hW; omega)
 | (
  refine st_rdF (v := vI .i64 cut) hA (by kernel_rfl) (by kernel_rfl) (by kernel_rfl) (by kernel_rfl) hW.cls (rl b3 0 1) ?_; clear hA ac; intro ac hA
  refine st_rdF (v := vB (decide ((cut : Int) < (0 : Int)))) hA (by kernel_rfl) (by kernel_rfl) (by kernel_rfl) (by kernel_rfl) hW.cls (Rd.pure fun _ => by kernel_rfl) ?_; clear hA ac; intro ac hA
  refine st_rdF (v := vB (decide ((cut : Int) < (0 : Int)))) hA (by kernel_rfl) (by kernel_rfl) (by kernel_rfl) (by kernel_rfl) hW.cls (Rd.pure fun _ => by kernel_rfl) ?_; clear hA ac; intro ac hA
  refine st_rdF (v := vB (decide ((cut : Int) < (0 : Int)))) hA (by kernel_rfl) (by kernel_rfl) (by kernel_rfl) (by kernel_rfl) hW.cls (Rd.pure fun _ => by kernel_rfl) ?_; clear hA ac; intro ac hA
  rcases Bool.eq_false_or_eq_true (decide ((cut : Int) < (0 : Int))) with h11 | h11
  ·
   rw [h11] at hA
   have h11 := of_decide_eq_true h11
   first
   | (exfalso; clear hA hW; omega)
   | (
    refine st_skipF hA (by kernel_rfl) (by kernel_rfl) ?_; clear hA ac; intro ac hA
    refine st_skipF hA (by kernel_rfl) (by kernel_rfl) ?_; clear hA ac; intro ac hA
    refine st_skipF hA (by kernel_rfl) (by kernel_rfl) ?_; clear hA ac; intro ac hA
    refine st_skipF hA (by kernel_rfl) (by kernel_rfl) ?_; clear hA ac; intro ac hA
    refine st_rdF (v := vB true) hA (by kernel_rfl) (by kernel_rfl) (by kernel_rfl) (by kernel_rfl) hW.cls (Rd.pure fun _ => by kernel_rfl) ?_; clear hA ac; intro ac hA
    refine wpListIn_nil <| thenN <| wpIn_cond_true (hA.eval (by kernel_rfl)) <| wpIn_seq <| wpIn_region_lit <| stF hA (by kernel_rfl) (by kernel_rfl) (by kernel_rfl) (by kernel_rfl) (RunsF.of (Runs.callN (v := vB true) (fun _ => by kernel_rfl) hW (e_works w7) ?_)); clear hA ac hW; intro w12 hW hfw12 ac hA
    refine stF hA (by kernel_rfl) (by kernel_rfl) (by kernel_rfl) (by kernel_rfl) (RunsF.of (Runs.store (v := vB true) (b := b5) (j := 0) (n := 1) (cs' := #[vB true]) (H' := [Cel b5 #[vB true] 4, Cel b3 #[vI .i64 cut] 3, Cel b1 #[vS A_l l.length c_l] 22]) (by kernel_rfl) (by kernel_rfl) (by kernel_rfl) (by kernel_rfl) (by kernel_rfl) hW 0 (by rfl) (Nat.le_of_ble_eq_true (by kernel_rfl)) (by kernel_rfl) (by rfl) ?_)); clear hA ac hW; intro w13 hW ac hA
    refine wpListIn_nil <| thenN <| wpIn_ret <| thenR <| retF (.inl rfl) hA <| leave1 (v := vB true) (by rfl) (GotF.cell (b := b5) (i := 0) hA (by kernel_rfl) (by kernel_rfl) (hW.cel 0 rfl) (by kernel_rfl)) ?_
    clear hA
    exact ⟨retv (by rfl), hW.fr⟩)
  rw [h11] at hA
  have h11 := of_decide_eq_false h11
  first
  | (exfalso; clear hA hW; omega)
  | (
   refine st_rdF (v := vI .i64 cut) hA (by kernel_rfl) (by kernel_rfl) (by kernel_rfl) (by kernel_rfl) hW.cls (rl b3 0 1) ?_; clear hA ac; intro ac hA
   refine st_rdF (v := vS A_l l.length c_l) hA (by kernel_rfl) (by kernel_rfl) (by kernel_rfl) (by kernel_rfl) hW.cls (rl b1 0 2) ?_; clear hA ac; intro ac hA
   refine st_rdF (v := vI .i64 (l.length : Int)) hA (by kernel_rfl) (by kernel_rfl) (by kernel_rfl) (by kernel_rfl) hW.cls (Rd.pure fun _ => by kernel_rfl) ?_; clear hA ac; intro ac hA
   refine st_rdF (v := vB (decide ((cut : Int) > (l.length : Int)))) hA (by kernel_rfl) (by kernel_rfl) (by kernel_rfl) (by kernel_rfl) hW.cls (Rd.pure fun _ => by kernel_rfl) ?_; clear hA ac; intro ac hA
   refine st_rdF (v := vB (decide ((cut : Int) > (l.length : Int)))) hA (by kernel_rfl) (by kernel_rfl) (by kernel_rfl) (by kernel_rfl) hW.cls (Rd.pure fun _ => by kernel_rfl) ?_; clear hA ac; intro ac hA
   refine wpListIn_nil <| thenN <| wpIn_cond_split (t := decide ((cut : Int) > (l.length : Int))) (hA.eval (by kernel_rfl)) (fun h14 => ?_) (fun h14 => ?_)
   ·
    have h14 := of_decide_eq_true h14
    first
    | (exfalso; clear hA hW; omega)
    | (
     refine wpIn_seq <| wpIn_region_lit <| stF hA (by kernel_rfl) (by kernel_rfl) (by kernel_rfl) (by kernel_rfl) (RunsF.of (Runs.callN (v := vB true) (fun _ => by kernel_rfl) hW (e_works w7) ?_)); clear hA ac hW; intro w15 hW hfw15 ac hA
     refine stF hA (by kernel_rfl) (by kernel_rfl) (by kernel_rfl) (by kernel_rfl) (RunsF.of (Runs.store (v := vB true) (b := b5) (j := 0) (n := 1) (cs' := #[vB true]) (H' := [Cel b5 #[vB true] 4, Cel b3 #[vI .i64 cut] 3, Cel b1 #[vS A_l l.length c_l] 22]) (by kernel_rfl) (by kernel_rfl) (by kernel_rfl) (by kernel_rfl) (by kernel_rfl) hW 0 (by rfl) (Nat.le_of_ble_eq_true (by kernel_rfl)) (by kernel_rfl) (by rfl) ?_)); clear hA ac hW; intro w16 hW ac hA
     refine wpListIn_nil <| thenN <| wpIn_ret <| thenR <| retF (.inl rfl) hA <| leave1 (v := vB true) (by rfl) (GotF.cell (b := b5) (i := 0) hA (by kernel_rfl) (by kernel_rfl) (hW.cel 0 rfl) (by kernel_rfl)) ?_
     clear hA
     exact ⟨retv (by rfl), hW.fr⟩)
   have h14 := of_decide_eq_false h14
   first
   | (exfalso; clear hA hW; omega)
   | (
    refine wpIn_skip <| thenN <| wpIn_seq ?_
    have hfl_ := few_len (show fewOk l 50 = true from h8)
    obtain ⟨cn, rfl⟩ : ∃ cn : Nat, cut = (cn : Int) := ⟨cut.toNat, by omega⟩
    replace hW : Ws w No [Cel b5 #[vB false] 4, Cel b3 #[vI .i64 (cn : Int)] 3, Cel b1 #[vS A_l l.length c_l] 22] [roR A_l 9 enEvent l] w7 := hW
    have hcn_ : cn ≤ l.length := by omega
    have htl_ : (l.take cn).length = cn := by rw [List.length_take]; omega
    rcases Bool.eq_false_or_eq_true (decide (newOk l)) with h17 | h17
    ·
     have h17 := of_decide_eq_true h17
     first
     | (exfalso; clear hA hW; omega)
     | (
      refine wpIn_region_lit <| st_rdF (v := vS A_l l.length c_l) hA (by kernel_rfl) (by kernel_rfl) (by kernel_rfl) (by kernel_rfl) hW.cls (rl b1 0 2) ?_; clear hA ac; intro ac hA
      refine stF hA (by kernel_rfl) (by kernel_rfl) (by kernel_rfl) (by kernel_rfl) (RunsF.of (Runs.call (fun _ => by kernel_rfl) (e_onew A_l c_l l w7 ((hW).getG 0 rfl) (by first | assumption | omega | (simp; omega) | simp) (by omega) (by first | exact And.right (by assumption) | exact (fun x_ hx_ => (And.right (show newOk l from by assumption)) x_ (List.mem_of_mem_take hx_))) (by first | exact (fun x hx => (hel x hx).2) | exact (fun x hx => (hel x (List.mem_of_mem_take hx)).2))) ?_))
      rintro _ w18 ⟨n19, n20, n21, n22, n23, n24, n25, n26, n27, n28, rfl, hw18_hK, hu_⟩; refine ⟨_, rfl, ?_⟩; replace hW := hW.made hu_; clear hA ac; intro ac hA
      refine st_rdF (v := vT #[pA n19 0, vI .i64 0]) hA (by kernel_rfl) (by kernel_rfl) (by kernel_rfl) (by kernel_rfl) hW.cls (Rd.pure fun _ => by kernel_rfl) ?_; clear hA ac; intro ac hA
      refine st_rdF (v := pA n19 0) hA (by kernel_rfl) (by kernel_rfl) (by kernel_rfl) (by kernel_rfl) hW.cls (Rd.pure fun _ => by kernel_rfl) ?_; clear hA ac; intro ac hA
      refine st_rdF (v := vI .i64 0) hA (by kernel_rfl) (by kernel_rfl) (by kernel_rfl) (by kernel_rfl) hW.cls (Rd.pure fun _ => by kernel_rfl) ?_; clear hA ac; intro ac hA
      refine st_rdF (v := pA n19 0) hA (by kernel_rfl) (by kernel_rfl) (by kernel_rfl) (by kernel_rfl) hW.cls (Rd.pure fun _ => by kernel_rfl) ?_; clear hA ac; intro ac hA
      refine st_rdF (v := vI .i64 0) hA (by kernel_rfl) (by kernel_rfl) (by kernel_rfl) (by kernel_rfl) hW.cls (Rd.pure fun _ => by kernel_rfl) ?_; clear hA ac; intro ac hA
      refine wpListIn_nil <| thenN <| wpIn_seq <| wpIn_region_lit <| st_rdF (v := vS A_l l.length c_l) hA (by kernel_rfl) (by kernel_rfl) (by kernel_rfl) (by kernel_rfl) hW.cls (rl b1 0 3) ?_; clear hA ac; intro ac hA
      refine st_rdF (v := vI .i64 (cn : Int)) hA (by kernel_rfl) (by kernel_rfl) (by kernel_rfl) (by kernel_rfl) hW.cls (rl b3 0 2) ?_; clear hA ac; intro ac hA
      refine st_rdF (v := vS A_l (l.take cn).length c_l) hA (by kernel_rfl) (by kernel_rfl) (by kernel_rfl) (by kernel_rfl) hW.cls ((Rd.slice (E := 51) (A := A_l) (n := l.length) (c := c_l) (l := 0) (h := cn) (m := c_l) (sz := 9) (by kernel_rfl) (fun _ => by kernel_rfl) (fun _ => by kernel_rfl) (fun w => bounds_hi (by omega) w)).cast (slice_eq (addr_zero _ _ _) (by first | omega | (simp; done) | (simp; omega)) (by first | omega | (simp; done) | (simp; omega)))) ?_; clear hA ac; intro ac hA
      refine stF hA (by kernel_rfl) (by kernel_rfl) (by kernel_rfl) (by kernel_rfl) (RunsF.of (Runs.call (fun _ => by kernel_rfl) (e_onew A_l c_l (l.take cn) w18 (((hW).getG 0 rfl).takeE cn) (by first | assumption | omega | (simp; omega) | simp) (by omega) (by first | exact And.right (by assumption) | exact (fun x_ hx_ => (And.right (show newOk l from by assumption)) x_ (List.mem_of_mem_take hx_))) (by first | exact (fun x hx => (hel x hx).2) | exact (fun x hx => (hel x (List.mem_of_mem_take hx)).2))) ?_))
      rintro _ w29 ⟨n30, n31, n32, n33, n34, n35, n36, n37, n38, n39, rfl, hw29_hK, hu_⟩; refine ⟨_, rfl, ?_⟩; replace hW := hW.made hu_; clear hA ac; intro ac hA
      refine st_rdF (v := vT #[pA n30 0, vI .i64 0]) hA (by kernel_rfl) (by kernel_rfl) (by kernel_rfl) (by kernel_rfl) hW.cls (Rd.pure fun _ => by kernel_rfl) ?_; clear hA ac; intro ac hA
      refine st_rdF (v := pA n30 0) hA (by kernel_rfl) (by kernel_rfl) (by kernel_rfl) (by kernel_rfl) hW.cls (Rd.pure fun _ => by kernel_rfl) ?_; clear hA ac; intro ac hA
      refine st_rdF (v := vI .i64 0) hA (by kernel_rfl) (by kernel_rfl) (by kernel_rfl) (by kernel_rfl) hW.cls (Rd.pure fun _ => by kernel_rfl) ?_; clear hA ac; intro ac hA
      refine st_rdF (v := pA n30 0) hA (by kernel_rfl) (by kernel_rfl) (by kernel_rfl) (by kernel_rfl) hW.cls (Rd.pure fun _ => by kernel_rfl) ?_; clear hA ac; intro ac hA
      refine st_rdF (v := vI .i64 0) hA (by kernel_rfl) (by kernel_rfl) (by kernel_rfl) (by kernel_rfl) hW.cls (Rd.pure fun _ => by kernel_rfl) ?_; clear hA ac; intro ac hA
      refine wpListIn_nil <| thenN <| wpIn_seq <| wpIn_seq ?_
      have hok := hw18_hK; have hev := hok.ev; have hbg_ := race_lil (E := l) (by omega); have hbc_ := race_lil (E := l.take cn) (by omega)
      refine wpIn_region_lit <| st_rdF (v := vI .i64 0) hA (by kernel_rfl) (by kernel_rfl) (by kernel_rfl) (by kernel_rfl) hW.cls (Rd.pure fun _ => by kernel_rfl) ?_; clear hA ac; intro ac hA
      refine stF hA (by kernel_rfl) (by kernel_rfl) (by kernel_rfl) (by kernel_rfl) (RunsF.of (Runs.callN (v := vI .i64 (0)) (fun _ => by kernel_rfl) hW (e_num (0) w29) ?_)); clear hA ac hW; intro w40 hW hfw40 ac hA
      refine st_rdF (v := vB (((0) : Int) != (0 : Int))) hA (by kernel_rfl) (by kernel_rfl) (by kernel_rfl) (by kernel_rfl) hW.cls (Rd.pure fun _ => by kernel_rfl) ?_; clear hA ac; intro ac hA
      refine wpListIn_nil <| thenN <| wpIn_cond_split (t := ((0) : Int) != (0 : Int)) (hA.eval (by kernel_rfl)) (fun h41 => ?_) (fun h41 => ?_)
      ·
       have h41 := bne_iff_ne.1 h41
       first
       | (exfalso; clear hA hW; omega)
       | (
        refine wpIn_seq <| wpIn_region_lit <| stF hA (by kernel_rfl) (by kernel_rfl) (by kernel_rfl) (by kernel_rfl) (RunsF.of (Runs.callN (v := vB true) (fun _ => by kernel_rfl) hW (e_works w40) ?_)); clear hA ac hW; intro w42 hW hfw42 ac hA
        refine stF hA (by kernel_rfl) (by kernel_rfl) (by kernel_rfl) (by kernel_rfl) (RunsF.of (Runs.store (v := vB true) (b := b5) (j := 0) (n := 1) (cs' := #[vB true]) (H' := [OrdR n30 n31 n32 (l.take cn) n33 n34 n35 n36 n37 n38 n39, OrdR n19 n20 n21 l n22 n23 n24 n25 n26 n27 n28, Cel b5 #[vB true] 4, Cel b3 #[vI .i64 (cn : Int)] 3, Cel b1 #[vS A_l l.length c_l] 22]) (by kernel_rfl) (by kernel_rfl) (by kernel_rfl) (by kernel_rfl) (by kernel_rfl) hW 2 (by rfl) (Nat.le_of_ble_eq_true (by kernel_rfl)) (by kernel_rfl) (by rfl) ?_)); clear hA ac hW; intro w43 hW ac hA
        refine wpListIn_nil <| thenN <| wpIn_ret <| thenR <| retF (.inl rfl) hA <| leave1 (v := vB true) (by rfl) (GotF.cell (b := b5) (i := 0) hA (by kernel_rfl) (by kernel_rfl) (hW.cel 2 rfl) (by kernel_rfl)) ?_
        clear hA
        exact ⟨retv (by rfl), hW.fr⟩)
      have h41 := of_bne_f h41
      first
      | (exfalso; clear hA hW; omega)
      | (
       refine wpIn_skip <| thenN <| wpIn_seq <| wpIn_region_lit <| st_rdF (v := pA n19 0) hA (by kernel_rfl) (by kernel_rfl) (by kernel_rfl) (by kernel_rfl) hW.cls (Rd.pure fun _ => by kernel_rfl) ?_; clear hA ac; intro ac hA
       refine stF hA (by kernel_rfl) (by kernel_rfl) (by kernel_rfl) (by kernel_rfl) (RunsF.of (Runs.call (fun _ => by kernel_rfl) (e_rAll n19 n20 n21 l n22 n23 n24 n25 n26 n27 n28 w40 ((hW).get 1 rfl) ((hW).lt _ (List.mem_of_getElem? (i := 1) rfl)) (by assumption) (by omega)) ?_))
       rintro _ w44 ⟨lb45, g46, rfl, hIg46, hfg46, hfw44⟩; refine ⟨_, rfl, ?_⟩; have hW0 := hW; have hW := hW0.call hfw44; have hW := hW0.addFromAt hW hfg46 in_nil; clear hW0 hA ac; intro ac hA
       refine st_rdF (v := pA n30 0) hA (by kernel_rfl) (by kernel_rfl) (by kernel_rfl) (by kernel_rfl) hW.cls (Rd.pure fun _ => by kernel_rfl) ?_; clear hA ac; intro ac hA
       refine stF hA (by kernel_rfl) (by kernel_rfl) (by kernel_rfl) (by kernel_rfl) (RunsF.of (Runs.call (fun _ => by kernel_rfl) (e_rAll n30 n31 n32 (l.take cn) n33 n34 n35 n36 n37 n38 n39 w44 ((hW).get 0 rfl) ((hW).lt _ (List.mem_of_getElem? (i := 0) rfl)) (by assumption) (by omega)) ?_))
       rintro _ w47 ⟨lb48, g49, rfl, hIg49, hfg49, hfw47⟩; refine ⟨_, rfl, ?_⟩; have hW0 := hW; have hW := hW0.call hfw47; have hW := hW0.addFromAt hW hfg49 in_nil; clear hW0 hA ac; intro ac hA
       refine st_rdF (v := vF (.func 36) #[] lb45) hA (by kernel_rfl) (by kernel_rfl) (by kernel_rfl) (by kernel_rfl) hW.cls (Rd.pure fun _ => by kernel_rfl) ?_; clear hA ac; intro ac hA
       refine st_rdF (v := vF (.func 36) #[] lb48) hA (by kernel_rfl) (by kernel_rfl) (by kernel_rfl) (by kernel_rfl) hW.cls (Rd.pure fun _ => by kernel_rfl) ?_; clear hA ac; intro ac hA
       refine wpListIn_nil <| thenN <| wpIn_seq <| wpIn_seq <| wpIn_region_lit <| st_rdF (v := vI .i64 0) hA (by kernel_rfl) (by kernel_rfl) (by kernel_rfl) (by kernel_rfl) hW.cls (Rd.pure fun _ => by kernel_rfl) ?_; clear hA ac; intro ac hA
       refine stF hA (by kernel_rfl) (by kernel_rfl) (by kernel_rfl) (by kernel_rfl) (RunsF.of (Runs.callN (v := vI .i64 (0)) (fun _ => by kernel_rfl) hW (e_num (0) w47) ?_)); clear hA ac hW; intro w50 hW hfw50 ac hA
       refine st_rdF (v := vB (((0) : Int) != (0 : Int))) hA (by kernel_rfl) (by kernel_rfl) (by kernel_rfl) (by kernel_rfl) hW.cls (Rd.pure fun _ => by kernel_rfl) ?_; clear hA ac; intro ac hA
       refine st_rdF (v := vB (((0) : Int) != (0 : Int))) hA (by kernel_rfl) (by kernel_rfl) (by kernel_rfl) (by kernel_rfl) hW.cls (Rd.pure fun _ => by kernel_rfl) ?_; clear hA ac; intro ac hA
       rcases Bool.eq_false_or_eq_true (((0) : Int) != (0 : Int)) with h51 | h51
       ·
        rw [h51] at hA
        have h51 := bne_iff_ne.1 h51
        first
        | (exfalso; clear hA hW; omega)
        | (
         refine st_skipF hA (by kernel_rfl) (by kernel_rfl) ?_; clear hA ac; intro ac hA
         refine st_skipF hA (by kernel_rfl) (by kernel_rfl) ?_; clear hA ac; intro ac hA
         refine st_rdF (v := vB true) hA (by kernel_rfl) (by kernel_rfl) (by kernel_rfl) (by kernel_rfl) hW.cls (Rd.pure fun _ => by kernel_rfl) ?_; clear hA ac; intro ac hA
         refine st_rdF (v := vB true) hA (by kernel_rfl) (by kernel_rfl) (by kernel_rfl) (by kernel_rfl) hW.cls (Rd.pure fun _ => by kernel_rfl) ?_; clear hA ac; intro ac hA
         refine st_skipF hA (by kernel_rfl) (by kernel_rfl) ?_; clear hA ac; intro ac hA
         refine st_skipF hA (by kernel_rfl) (by kernel_rfl) ?_; clear hA ac; intro ac hA
         refine st_rdF (v := vB true) hA (by kernel_rfl) (by kernel_rfl) (by kernel_rfl) (by kernel_rfl) hW.cls (Rd.pure fun _ => by kernel_rfl) ?_; clear hA ac; intro ac hA
         refine wpListIn_nil <| thenN <| wpIn_cond_true (hA.eval (by kernel_rfl)) <| wpIn_seq <| wpIn_region_lit <| stF hA (by kernel_rfl) (by kernel_rfl) (by kernel_rfl) (by kernel_rfl) (RunsF.of (Runs.store (v := vB false) (b := b5) (j := 0) (n := 1) (cs' := #[vB false]) (H' := [OrdR n30 n31 n32 (l.take cn) n33 n34 n35 n36 n37 n38 n39, OrdR n19 n20 n21 l n22 n23 n24 n25 n26 n27 n28, Cel b5 #[vB false] 4, Cel b3 #[vI .i64 (cn : Int)] 3, Cel b1 #[vS A_l l.length c_l] 22]) (by kernel_rfl) (by kernel_rfl) (by kernel_rfl) (by kernel_rfl) (by kernel_rfl) hW 2 (by rfl) (Nat.le_of_ble_eq_true (by kernel_rfl)) (by kernel_rfl) (by rfl) ?_)); clear hA ac hW; intro w52 hW ac hA
         refine wpListIn_nil <| thenN <| wpIn_ret <| thenR <| retF (.inl rfl) hA <| leave1 (v := vB false) (by rfl) (GotF.cell (b := b5) (i := 0) hA (by kernel_rfl) (by kernel_rfl) (hW.cel 2 rfl) (by kernel_rfl)) ?_
         clear hA
         exact ⟨retv (by rfl), hW.fr⟩)
       rw [h51] at hA
       have h51 := of_bne_f h51
       first
       | (exfalso; clear hA hW; omega)
       | (
        refine st_rdF (v := vF (.func 36) #[] lb45) hA (by kernel_rfl) (by kernel_rfl) (by kernel_rfl) (by kernel_rfl) hW.cls (Rd.pure fun _ => by kernel_rfl) ?_; clear hA ac; intro ac hA
        refine st_rdF (v := vB false) hA (by kernel_rfl) (by kernel_rfl) (by kernel_rfl) (by kernel_rfl) hW.cls (Rd.pure fun _ => by kernel_rfl) ?_; clear hA ac; intro ac hA
        refine st_rdF (v := vB false) hA (by kernel_rfl) (by kernel_rfl) (by kernel_rfl) (by kernel_rfl) hW.cls (Rd.pure fun _ => by kernel_rfl) ?_; clear hA ac; intro ac hA
        refine st_rdF (v := vB false) hA (by kernel_rfl) (by kernel_rfl) (by kernel_rfl) (by kernel_rfl) hW.cls (Rd.pure fun _ => by kernel_rfl) ?_; clear hA ac; intro ac hA
        refine st_rdF (v := vF (.func 36) #[] lb48) hA (by kernel_rfl) (by kernel_rfl) (by kernel_rfl) (by kernel_rfl) hW.cls (Rd.pure fun _ => by kernel_rfl) ?_; clear hA ac; intro ac hA
        refine st_rdF (v := vB false) hA (by kernel_rfl) (by kernel_rfl) (by kernel_rfl) (by kernel_rfl) hW.cls (Rd.pure fun _ => by kernel_rfl) ?_; clear hA ac; intro ac hA
        refine st_rdF (v := vB false) hA (by kernel_rfl) (by kernel_rfl) (by kernel_rfl) (by kernel_rfl) hW.cls (Rd.pure fun _ => by kernel_rfl) ?_; clear hA ac; intro ac hA
        refine wpListIn_nil <| thenN <| wpIn_cond_false (hA.eval (by kernel_rfl)) <| wpIn_skip <| thenN <| wpIn_seq <| wpIn_region_lit <| stF hA (by kernel_rfl) (by kernel_rfl) (by kernel_rfl) (by kernel_rfl) (RunsF.of (Runs.cells (fun b => pA b 0) #[vS none 0 0] 35 (fun _ => by kernel_rfl) hW ?_)); clear hA ac hW; intro b53 w54 hW hb53 hfw54 ac hA
        refine stF hA (by kernel_rfl) (by kernel_rfl) (by kernel_rfl) (by kernel_rfl) (RunsF.of (Runs.cells (fun b => pA b 0) #[vS none 0 0] 35 (fun _ => by kernel_rfl) hW ?_)); clear hA ac hW; intro b55 w56 hW hb55 hfw56 ac hA
        refine wpListIn_nil <| thenN <| wpIn_seq <| wpIn_region_lit <| st_rdF (v := vS A_l l.length c_l) hA (by kernel_rfl) (by kernel_rfl) (by kernel_rfl) (by kernel_rfl) hW.cls (rl b1 0 6) ?_; clear hA ac; intro ac hA
        refine st_rdF (v := vI .i64 (l.length : Int)) hA (by kernel_rfl) (by kernel_rfl) (by kernel_rfl) (by kernel_rfl) hW.cls (Rd.pure fun _ => by kernel_rfl) ?_; clear hA ac; intro ac hA
        refine stF hA (by kernel_rfl) (by kernel_rfl) (by kernel_rfl) (by kernel_rfl) (RunsF.of (Runs.cells (fun b => pA b 0) #[vI .i64 0] 3 (fun _ => by kernel_rfl) hW ?_)); clear hA ac hW; intro b57 w58 hW hb57 hfw58 ac hA
        refine stF hA (by kernel_rfl) (by kernel_rfl) (by kernel_rfl) (by kernel_rfl) (RunsF.of (Runs.store (v := vI .i64 (l.length : Int)) (b := b57) (j := 0) (n := 1) (cs' := #[vI .i64 (l.length : Int)]) (H' := [Cel b57 #[vI .i64 (l.length : Int)] 3, Cel b55 #[vS none 0 0] 35, Cel b53 #[vS none 0 0] 35, OrdR n30 n31 n32 (l.take cn) n33 n34 n35 n36 n37 n38 n39, OrdR n19 n20 n21 l n22 n23 n24 n25 n26 n27 n28, Cel b5 #[vB false] 4, Cel b3 #[vI .i64 (cn : Int)] 3, Cel b1 #[vS A_l l.length c_l] 22]) (by kernel_rfl) (by kernel_rfl) (by kernel_rfl) (by kernel_rfl) (by kernel_rfl) hW 0 (by rfl) (Nat.le_of_ble_eq_true (by kernel_rfl)) (by kernel_rfl) (by rfl) ?_)); clear hA ac hW; intro w59 hW ac hA
        refine wpListIn_nil <| thenN <| wpIn_seq <| wpIn_seq <| wpIn_region_lit <| st_rdF (v := vF (.func 36) #[] lb45) hA (by kernel_rfl) (by kernel_rfl) (by kernel_rfl) (by kernel_rfl) hW.cls (Rd.pure fun _ => by kernel_rfl) ?_; clear hA ac; intro ac hA
        refine wpListIn_nil <| thenN <| wpIn_block ?_
        have hW := hW.addNil 47 7 enRace
        have hW := hW.share 8 rfl (H' := [rowR 47 7 enRace (vS none 0 0) ([] : List Race), Cel b57 #[vI .i64 (l.length : Int)] 3, Cel b55 #[vS none 0 0] 35, Cel b53 #[vS none 0 0] 35, OrdR n30 n31 n32 (l.take cn) n33 n34 n35 n36 n37 n38 n39, OrdR n19 n20 n21 l n22 n23 n24 n25 n26 n27 n28, Cel b5 #[vB false] 4, Cel b3 #[vI .i64 (cn : Int)] 3]) rfl
        have hW := hW.share 7 rfl (H' := [rowR 47 7 enRace (vS none 0 0) ([] : List Race), Cel b57 #[vI .i64 (l.length : Int)] 3, Cel b55 #[vS none 0 0] 35, Cel b53 #[vS none 0 0] 35, OrdR n30 n31 n32 (l.take cn) n33 n34 n35 n36 n37 n38 n39, OrdR n19 n20 n21 l n22 n23 n24 n25 n26 n27 n28, Cel b5 #[vB false] 4]) rfl
        refine wp_range (encs := (fun x_ : Race × Nat => #[vI .i64 ((x_.2 : Nat) : Int), x_.1.v])) (Sx := (· = (raceL l).zipIdx)) hA (by kernel_rfl) (by kernel_rfl) (enters_of Tryz.func36 (by kernel_rfl) rfl) (by kernel_rfl) (fun _ => rfl) hIg46 (List.forall_mem_singleton.2 (List.mem_of_getElem? (i := 3) rfl)) (fun pre_ H_ => ∃ k : Nat, ∃ d : List Race, ∃ A : Option Addr, ∃ c : Nat, ∃ fi : Int, pre_ = (raceL l).zipIdx.take k ∧ k ≤ (raceL l).length ∧ (d = ((raceL l).take k).filter (fun r => decide (r.j < (cn : Int)))) ∧ (d.length ≤ c) ∧ (fi = firstJ ((raceL l).take k) (l.length : Int)) ∧ H_ = [Cel b53 #[vS A d.length c] 35, Cel b57 #[vI .i64 fi] 3, rowR 47 7 enRace (vS A d.length c) d]) (fun _ _ _ => False) (H := [Cel b53 #[vS none 0 0] 35, Cel b57 #[vI .i64 (l.length : Int)] 3, rowR 47 7 enRace (vS none 0 0) ([] : List Race)]) (K := [Cel b55 #[vS none 0 0] 35, OrdR n30 n31 n32 (l.take cn) n33 n34 n35 n36 n37 n38 n39, OrdR n19 n20 n21 l n22 n23 n24 n25 n26 n27 n28, Cel b5 #[vB false] 4]) (hW.pick [3, 1, 0, 2, 4, 5, 6] (by decide) rfl) ⟨0, [], none, 0, (l.length : Int), rfl, Nat.zero_le _, by rfl, by simp, by rfl, rfl⟩ ?_ ?_ ?_
        ·
         clear hA ac hW; intro l_60 rd_60 bs_60 pre_ x_ Hk_ w61 T_60 ac hrd_60 hbs_60 hbr_60 hok_ hJ_ hA hW hB_60 hT_60
         obtain ⟨k, d, A, c, fi, rfl, hk_, hd, hdc, hfi, rfl⟩ := hJ_
         obtain ⟨y62, rfl, hy62, hlty62, hsny62⟩ := comes_zip hok_ hk_
         replace hA : Fm 171 [] [(0, vS A_l l.length c_l), (1, vI .i64 (cn : Int)), (2, pA b1 0), (3, pA b3 0), (4, pA b5 0), (5, pA n19 0), (6, vI .i64 0), (7, pA n30 0), (8, vI .i64 0), (9, vF (.func 36) #[] lb45), (10, vF (.func 36) #[] lb48), (11, pA b53 0), (12, pA b55 0), (13, pA b57 0), (20, vS A_l l.length c_l), (21, vB (fewOk l (50))), (22, vB false), (23, vB false), (24, vI .i64 (cn : Int)), (25, vB false), (26, vB false), (27, vB false), (28, vI .i64 (cn : Int)), (29, vS A_l l.length c_l), (30, vI .i64 (l.length : Int)), (34, vT #[pA n19 0, vI .i64 0]), (35, vS A_l l.length c_l), (36, vT #[pA n19 0, vI .i64 0]), (37, pA n19 0), (38, vI .i64 0), (39, vT #[pA n30 0, vI .i64 0]), (40, vS A_l l.length c_l), (41, vI .i64 (cn : Int)), (42, vS A_l (l.take cn).length c_l), (43, vT #[pA n30 0, vI .i64 0]), (44, pA n30 0), (45, vI .i64 0), (46, vI .i64 0), (47, vI .i64 (0)), (48, vB false), (50, pA n19 0), (51, vF (.func 36) #[] lb45), (52, pA n30 0), (53, vF (.func 36) #[] lb48), (54, vI .i64 0), (55, vI .i64 (0)), (56, vB false), (57, vB false), (58, vF (.func 36) #[] lb45), (59, vB false), (60, vB false), (61, vB false), (62, vF (.func 36) #[] lb48), (63, vB false), (64, vB false), (65, vS A_l l.length c_l), (66, vI .i64 (l.length : Int)), (67, vF (.func 36) #[] lb45), (68, vI .i64 (k : Int)), (69, y62.v)] ac := hA.sub (by and_intros <;> first | kernel_rfl | trivial)
         have hdl_ : d.length ≤ 10000 := by rw [hd]; exact Nat.le_trans (List.length_filter_le _ _) (by rw [List.length_take]; omega)
         refine wpIn_region_lit <| stF hA (by kernel_rfl) (by kernel_rfl) (by kernel_rfl) (by kernel_rfl) (RunsF.of (Runs.cells (fun b => pA b 0) #[vI .i64 0, vI .i64 0, vI .u32 0, vI .i64 0, vI .i64 0, vI .i64 0, vI .i64 0] 47 (fun _ => by kernel_rfl) hW ?_)); clear hA ac hW; intro b63 w64 hW hb63 hfw64 ac hA
         refine stF hA (by kernel_rfl) (by kernel_rfl) (by kernel_rfl) (by kernel_rfl) (RunsF.of (Runs.store (v := y62.v) (b := b63) (j := 0) (n := 7) (cs' := #[vI .i64 y62.i, vI .i64 y62.j, vI .u32 y62.addr, vI .i64 y62.p.a.f, vI .i64 y62.p.a.pc, vI .i64 y62.p.b.f, vI .i64 y62.p.b.pc]) (H' := [Cel b63 #[vI .i64 y62.i, vI .i64 y62.j, vI .u32 y62.addr, vI .i64 y62.p.a.f, vI .i64 y62.p.a.pc, vI .i64 y62.p.b.f, vI .i64 y62.p.b.pc] 47, rd_60, Cel b53 #[vS A d.length c] 35, Cel b57 #[vI .i64 fi] 3, rowR 47 7 enRace (vS A d.length c) d]) (by kernel_rfl) (by kernel_rfl) (by kernel_rfl) (by kernel_rfl) (by kernel_rfl) hW 0 (by rfl) (Nat.le_of_ble_eq_true (by kernel_rfl)) (by kernel_rfl) (by rfl) ?_)); clear hA ac hW; intro w65 hW ac hA
         refine wpListIn_nil <| thenN <| begun (bs := bs_60) (H' := [Cel b63 #[vI .i64 y62.i, vI .i64 y62.j, vI .u32 y62.addr, vI .i64 y62.p.a.f, vI .i64 y62.p.a.pc, vI .i64 y62.p.b.f, vI .i64 y62.p.b.pc] 47, bs_60, Cel b53 #[vS A d.length c] 35, Cel b57 #[vI .i64 fi] 3, rowR 47 7 enRace (vS A d.length c) d]) hW 1 rfl (fun b hb => by rw [hbs_60] at hb; rw [hrd_60]; exact hb) rfl ?_; clear hW; intro w66 hW
         refine wpIn_block <| wpIn_seq <| wpIn_seq ?_
         obtain ⟨hr1_, hr2_, hr3_, hr4_⟩ := race_fact hev (List.mem_of_getElem? hy62)
         refine q_regionF (by kernel_rfl) (by kernel_rfl) (by kernel_rfl) hW <| sq_p (pA b63 0) hA fun ac hA => sq_q (vI .i64 y62.i) hA (rl b63 0 0) fun ac hA => sq_p (vB (decide ((y62.i : Int) < (0 : Int)))) hA fun ac hA => sq_p (vB (decide ((y62.i : Int) < (0 : Int)))) hA fun ac hA => ?_
         rcases Bool.eq_false_or_eq_true (decide ((y62.i : Int) < (0 : Int))) with h67 | h67
         ·
          rw [h67] at hA
          have h67 := of_decide_eq_true h67
          first
          | (exfalso; clear hA hW; omega)
          | (
           fail)
         rw [h67] at hA
         have h67 := of_decide_eq_false h67
         first
         | (exfalso; clear hA hW; omega)
         | (
          refine sq_p (pA b63 1) hA fun ac hA => sq_q (vI .i64 y62.j) hA (rl b63 1 0) fun ac hA => sq_p (pA b63 0) hA fun ac hA => sq_q (vI .i64 y62.i) hA (rl b63 0 0) fun ac hA => sq_p (vB (decide ((y62.j : Int) ≤ (y62.i : Int)))) hA fun ac hA => sq_p (vB (decide ((y62.j : Int) ≤ (y62.i : Int)))) hA fun ac hA => sq_p (vB (decide ((y62.j : Int) ≤ (y62.i : Int)))) hA fun ac hA => ?_
          rcases Bool.eq_false_or_eq_true (decide ((y62.j : Int) ≤ (y62.i : Int))) with h69 | h69
          ·
           rw [h69] at hA
           have h69 := of_decide_eq_true h69
           first
           | (exfalso; clear hA hW; omega)
           | (
            fail)
          rw [h69] at hA
          have h69 := of_decide_eq_false h69
          first
          | (exfalso; clear hA hW; omega)
          | (
           refine sq_p (pA b63 1) hA fun ac hA => sq_q (vI .i64 y62.j) hA (rl b63 1 0) fun ac hA => sq_q (vS A_l l.length c_l) hA (Rd.load (b := b1) (i := 0) (by kernel_rfl) (fun _ hw => show _ = _ from (hw.1).getG 1 rfl) (by kernel_rfl)) fun ac hA => sq_p (vI .i64 (l.length : Int)) hA fun ac hA => sq_p (vB (decide ((y62.j : Int) ≥ (l.length : Int)))) hA fun ac hA => sq_p (vB (decide ((y62.j : Int) ≥ (l.length : Int)))) hA fun ac hA => sq_p (vB (decide ((y62.j : Int) ≥ (l.length : Int)))) hA fun ac hA => ?_
           rcases Bool.eq_false_or_eq_true (decide ((y62.j : Int) ≥ (l.length : Int))) with h71 | h71
           ·
            rw [h71] at hA
            have h71 := of_decide_eq_true h71
            first
            | (exfalso; clear hA hW; omega)
            | (
             fail)
           rw [h71] at hA
           have h71 := of_decide_eq_false h71
           first
           | (exfalso; clear hA hW; omega)
           | (
            refine sq_q (vS A_l l.length c_l) hA (Rd.load (b := b1) (i := 0) (by kernel_rfl) (fun _ hw => show _ = _ from (hw.1).getG 1 rfl) (by kernel_rfl)) fun ac hA => sq_p (pA b63 0) hA fun ac hA => sq_q (vI .i64 y62.i) hA (rl b63 0 0) fun ac hA => ?_
            obtain ⟨y73, hy73⟩ : ∃ y, l[Int.toNat (y62.i)]? = some y := ⟨_, List.getElem?_eq_getElem (by first | omega | (simp; done) | (simp; omega))⟩
            obtain ⟨b74, o75, rfl, hbb74⟩ := row_some ((hW).getG 4 rfl) hy73
            refine sq_q (vP (some ⟨b74, o75 + (Int.toNat (y62.i)) * 9, none⟩)) hA (Rd.indexAddrI (e := 51) (sz := 9) (b := b74) (off := o75) (n := l.length) (c := c_l) (k := y62.i) (by kernel_rfl) (by kernel_rfl) (by omega) (by first | omega | (simp; done) | (simp; omega)) (fun _ => by kernel_rfl) (fun _ => by kernel_rfl)) fun ac hA => sq_p (vP (some ⟨b74, o75 + (Int.toNat (y62.i)) * 9, none⟩)) hA fun ac hA => sq_q (vI .i64 y73.g) hA (Rd.loadRow (b := b74) (i := o75 + (Int.toNat (y62.i)) * 9) (xs := [vI .i64 y73.g]) (by kernel_rfl) (fun _ hw => row_ld ((hw.1).getG 4 rfl) hy73 (Fr.refl No _) (fun h => h) 0 1 (by kernel_rfl)) (by kernel_rfl)) fun ac hA => sq_q (vS (some ⟨b74, o75, none⟩) l.length c_l) hA (Rd.load (b := b1) (i := 0) (by kernel_rfl) (fun _ hw => show _ = _ from (hw.1).getG 1 rfl) (by kernel_rfl)) fun ac hA => sq_p (pA b63 1) hA fun ac hA => sq_q (vI .i64 y62.j) hA (rl b63 1 0) fun ac hA => ?_
            obtain ⟨y76, hy76⟩ : ∃ y, l[Int.toNat (y62.j)]? = some y := ⟨_, List.getElem?_eq_getElem (by first | omega | (simp; done) | (simp; omega))⟩
            refine sq_q (vP (some ⟨b74, o75 + (Int.toNat (y62.j)) * 9, none⟩)) hA (Rd.indexAddrI (e := 51) (sz := 9) (b := b74) (off := o75) (n := l.length) (c := c_l) (k := y62.j) (by kernel_rfl) (by kernel_rfl) (by omega) (by first | omega | (simp; done) | (simp; omega)) (fun _ => by kernel_rfl) (fun _ => by kernel_rfl)) fun ac hA => sq_p (vP (some ⟨b74, o75 + (Int.toNat (y62.j)) * 9, none⟩)) hA fun ac hA => sq_q (vI .i64 y76.g) hA (Rd.loadRow (b := b74) (i := o75 + (Int.toNat (y62.j)) * 9) (xs := [vI .i64 y76.g]) (by kernel_rfl) (fun _ hw => row_ld ((hw.1).getG 4 rfl) hy76 (Fr.refl No _) (fun h => h) 0 1 (by kernel_rfl)) (by kernel_rfl)) fun ac hA => sq_p (vB ((y73.g : Int) == (y76.g : Int))) hA fun ac hA => sq_p (vB ((y73.g : Int) == (y76.g : Int))) hA fun ac hA => sq_p (vB ((y73.g : Int) == (y76.g : Int))) hA fun ac hA => ?_
            rcases Bool.eq_false_or_eq_true ((y73.g : Int) == (y76.g : Int)) with h77 | h77
            ·
             rw [h77] at hA
             have h77 := eq_of_beq h77
             first
             | (exfalso; clear hA hW; omega)
             | (exfalso; clear hA hW; have q_ := hr4_ _ _ hy73 hy76; omega; done)
             | (exfalso; clear hA hW; have q_ := hr4_ _ _ hy76 hy73; omega; done)
             | (
              fail)
            rw [h77] at hA
            have h77 := ne_of_beq_false h77
            first
            | (exfalso; clear hA hW; omega)
            | (exfalso; clear hA hW; have q_ := hr4_ _ _ hy73 hy76; omega; done)
            | (exfalso; clear hA hW; have q_ := hr4_ _ _ hy76 hy73; omega; done)
            | (
             refine sq_q (vS (some ⟨b74, o75, none⟩) l.length c_l) hA (Rd.load (b := b1) (i := 0) (by kernel_rfl) (fun _ hw => show _ = _ from (hw.1).getG 1 rfl) (by kernel_rfl)) fun ac hA => sq_p (pA b63 0) hA fun ac hA => sq_q (vI .i64 y62.i) hA (rl b63 0 0) fun ac hA => sq_q (vP (some ⟨b74, o75 + (Int.toNat (y62.i)) * 9, none⟩)) hA (Rd.indexAddrI (e := 51) (sz := 9) (b := b74) (off := o75) (n := l.length) (c := c_l) (k := y62.i) (by kernel_rfl) (by kernel_rfl) (by omega) (by first | omega | (simp; done) | (simp; omega)) (fun _ => by kernel_rfl) (fun _ => by kernel_rfl)) fun ac hA => sq_p (vP (some ⟨b74, o75 + (Int.toNat (y62.i)) * 9 + 1, none⟩)) hA fun ac hA => sq_q (vI .i64 y73.kind) hA (Rd.loadRow (b := b74) (i := o75 + (Int.toNat (y62.i)) * 9 + 1) (xs := [vI .i64 y73.kind]) (by kernel_rfl) (fun _ hw => row_ld ((hw.1).getG 4 rfl) hy73 (Fr.refl No _) (fun h => h) 1 1 (by kernel_rfl)) (by kernel_rfl)) fun ac hA => sq_p (vB ((y73.kind : Int) != (3 : Int))) hA fun ac hA => sq_p (vB ((y73.kind : Int) != (3 : Int))) hA fun ac hA => ?_
             rcases Bool.eq_false_or_eq_true ((y73.kind : Int) != (3 : Int)) with h78 | h78
             ·
              rw [h78] at hA
              have h78 := bne_iff_ne.1 h78
              first
              | (exfalso; clear hA hW; omega)
              | (exfalso; clear hA hW; have q_ := hr4_ _ _ hy73 hy76; omega; done)
              | (exfalso; clear hA hW; have q_ := hr4_ _ _ hy76 hy73; omega; done)
              | (
               refine sq_q (vS (some ⟨b74, o75, none⟩) l.length c_l) hA (Rd.load (b := b1) (i := 0) (by kernel_rfl) (fun _ hw => show _ = _ from (hw.1).getG 1 rfl) (by kernel_rfl)) fun ac hA => sq_p (pA b63 1) hA fun ac hA => sq_q (vI .i64 y62.j) hA (rl b63 1 0) fun ac hA => sq_q (vP (some ⟨b74, o75 + (Int.toNat (y62.j)) * 9, none⟩)) hA (Rd.indexAddrI (e := 51) (sz := 9) (b := b74) (off := o75) (n := l.length) (c := c_l) (k := y62.j) (by kernel_rfl) (by kernel_rfl) (by omega) (by first | omega | (simp; done) | (simp; omega)) (fun _ => by kernel_rfl) (fun _ => by kernel_rfl)) fun ac hA => sq_p (vP (some ⟨b74, o75 + (Int.toNat (y62.j)) * 9 + 1, none⟩)) hA fun ac hA => sq_q (vI .i64 y76.kind) hA (Rd.loadRow (b := b74) (i := o75 + (Int.toNat (y62.j)) * 9 + 1) (xs := [vI .i64 y76.kind]) (by kernel_rfl) (fun _ hw => row_ld ((hw.1).getG 4 rfl) hy76 (Fr.refl No _) (fun h => h) 1 1 (by kernel_rfl)) (by kernel_rfl)) fun ac hA => sq_p (vB ((y76.kind : Int) != (3 : Int))) hA fun ac hA => sq_p (vB ((y76.kind : Int) != (3 : Int))) hA fun ac hA => sq_p (vB ((y76.kind : Int) != (3 : Int))) hA fun ac hA => sq_nil ?_; intro w79 hww79; have hW := hww79.1; have hfw79 := hww79.2; clear hww79
               refine thenN <| wpIn_cond_split (t := (y76.kind : Int) != (3 : Int)) (hA.eval (by kernel_rfl)) (fun h80 => ?_) (fun h80 => ?_)
               ·
                have h80 := bne_iff_ne.1 h80
                first
                | (exfalso; clear hA hW; omega)
                | (exfalso; clear hA hW; have q_ := hr4_ _ _ hy73 hy76; omega; done)
                | (exfalso; clear hA hW; have q_ := hr4_ _ _ hy76 hy73; omega; done)
                | (
                 fail)
               have h80 := of_bne_f h80
               first
               | (exfalso; clear hA hW; omega)
               | (exfalso; clear hA hW; have q_ := hr4_ _ _ hy73 hy76; omega; done)
               | (exfalso; clear hA hW; have q_ := hr4_ _ _ hy76 hy73; omega; done)
               | (
                refine wpIn_skip <| thenN <| wpIn_seq <| wpIn_region_lit <| st_rdF (v := vI .i64 fi) hA (by kernel_rfl) (by kernel_rfl) (by kernel_rfl) (by kernel_rfl) hW.cls (rl b57 0 3) ?_; clear hA ac; intro ac hA
                refine st_rdF (v := pA b63 1) hA (by kernel_rfl) (by kernel_rfl) (by kernel_rfl) (by kernel_rfl) hW.cls (Rd.pure fun _ => by kernel_rfl) ?_; clear hA ac; intro ac hA
                refine st_rdF (v := vI .i64 y62.j) hA (by kernel_rfl) (by kernel_rfl) (by kernel_rfl) (by kernel_rfl) hW.cls (rl b63 1 0) ?_; clear hA ac; intro ac hA
                refine st_rdF (v := vI .i64 (min (fi : Int) (y62.j : Int))) hA (by kernel_rfl) (by kernel_rfl) (by kernel_rfl) (by kernel_rfl) hW.cls (Rd.pureE (v0 := vI .i64 (if (y62.j : Int) < (fi : Int) then (y62.j : Int) else (fi : Int))) (fun _ => by kernel_rfl) (congrArg (vI .i64) (min_ _ _))) ?_; clear hA ac; intro ac hA
                refine stF hA (by kernel_rfl) (by kernel_rfl) (by kernel_rfl) (by kernel_rfl) (RunsF.of (Runs.store (v := vI .i64 (min (fi : Int) (y62.j : Int))) (b := b57) (j := 0) (n := 1) (cs' := #[vI .i64 (min (fi : Int) (y62.j : Int))]) (H' := [Cel b63 #[vI .i64 y62.i, vI .i64 y62.j, vI .u32 y62.addr, vI .i64 y62.p.a.f, vI .i64 y62.p.a.pc, vI .i64 y62.p.b.f, vI .i64 y62.p.b.pc] 47, bs_60, Cel b53 #[vS A d.length c] 35, Cel b57 #[vI .i64 (min (fi : Int) (y62.j : Int))] 3, rowR 47 7 enRace (vS A d.length c) d]) (by kernel_rfl) (by kernel_rfl) (by kernel_rfl) (by kernel_rfl) (by kernel_rfl) hW 3 (by rfl) (Nat.le_of_ble_eq_true (by kernel_rfl)) (by kernel_rfl) (by rfl) ?_)); clear hA ac hW; intro w81 hW ac hA
                refine wpListIn_nil <| thenN <| wpIn_seq <| wpIn_region_lit <| st_rdF (v := pA b63 1) hA (by kernel_rfl) (by kernel_rfl) (by kernel_rfl) (by kernel_rfl) hW.cls (Rd.pure fun _ => by kernel_rfl) ?_; clear hA ac; intro ac hA
                refine st_rdF (v := vI .i64 y62.j) hA (by kernel_rfl) (by kernel_rfl) (by kernel_rfl) (by kernel_rfl) hW.cls (rl b63 1 0) ?_; clear hA ac; intro ac hA
                refine st_rdF (v := vI .i64 (cn : Int)) hA (by kernel_rfl) (by kernel_rfl) (by kernel_rfl) (by kernel_rfl) hW.cls (Rd.load (b := b3) (i := 0) (by kernel_rfl) (fun _ hw => show _ = _ from (hw.1).getG 0 rfl) (by kernel_rfl)) ?_; clear hA ac; intro ac hA
                refine st_rdF (v := vB (decide ((y62.j : Int) < (cn : Int)))) hA (by kernel_rfl) (by kernel_rfl) (by kernel_rfl) (by kernel_rfl) hW.cls (Rd.pure fun _ => by kernel_rfl) ?_; clear hA ac; intro ac hA
                refine wpListIn_nil <| thenN <| wpIn_cond_split (t := decide ((y62.j : Int) < (cn : Int))) (hA.eval (by kernel_rfl)) (fun h82 => ?_) (fun h82 => ?_)
                ·
                 have h82 := of_decide_eq_true h82
                 first
                 | (exfalso; clear hA hW; omega)
                 | (exfalso; clear hA hW; have q_ := hr4_ _ _ hy73 hy76; omega; done)
                 | (exfalso; clear hA hW; have q_ := hr4_ _ _ hy76 hy73; omega; done)
                 | (
                  refine wpIn_region_lit <| st_rdF (v := vS A d.length c) hA (by kernel_rfl) (by kernel_rfl) (by kernel_rfl) (by kernel_rfl) hW.cls (rl b53 0 2) ?_; clear hA ac; intro ac hA
                  refine st_rdF (v := vA #[vI .i64 y62.i, vI .i64 y62.j, vI .u32 y62.addr, vI .i64 y62.p.a.f, vI .i64 y62.p.a.pc, vI .i64 y62.p.b.f, vI .i64 y62.p.b.pc]) hA (by kernel_rfl) (by kernel_rfl) (by kernel_rfl) (by kernel_rfl) hW.cls (rl b63 0 0) ?_; clear hA ac; intro ac hA
                  refine stF hA (by kernel_rfl) (by kernel_rfl) (by kernel_rfl) (by kernel_rfl) (RunsF.of (Runs.cells (fun b => vS (some ⟨b, 0, none⟩) 1 1) #[vI .i64 y62.i, vI .i64 y62.j, vI .u32 y62.addr, vI .i64 y62.p.a.f, vI .i64 y62.p.a.pc, vI .i64 y62.p.b.f, vI .i64 y62.p.b.pc] 47 (fun _ => by kernel_rfl) hW ?_)); clear hA ac hW; intro b83 w84 hW hb83 hfw84 ac hA
                  refine stF hA (by kernel_rfl) (by kernel_rfl) (by kernel_rfl) (by kernel_rfl) (RunsF.of (Runs.appOwn (B := (some ⟨b83, 0, none⟩)) (k := 1) (E := 47) (sz := 7) (en := enRace) (l := d) (m := ([y62] : List Race)) (i := 5) (by kernel_rfl) (by kernel_rfl) elt_Race (by kernel_rfl) hW rfl (rowAt_cel ((hW).cel 0 rfl) ([y62] : List Race) (by rfl) elt_Race.len) (by first | omega | (simp; done) | (simp; omega)) (by first | omega | (simp; done) | (simp; omega)) ?_)); clear hA ac hW; intro A85 c86 w87 hW hcc86 ac hA
                  refine stF hA (by kernel_rfl) (by kernel_rfl) (by kernel_rfl) (by kernel_rfl) (RunsF.of (Runs.store (v := vS A85 (d ++ ([y62] : List Race)).length c86) (b := b53) (j := 0) (n := 1) (cs' := #[vS A85 (d ++ ([y62] : List Race)).length c86]) (H' := [Cel b83 #[vI .i64 y62.i, vI .i64 y62.j, vI .u32 y62.addr, vI .i64 y62.p.a.f, vI .i64 y62.p.a.pc, vI .i64 y62.p.b.f, vI .i64 y62.p.b.pc] 47, Cel b63 #[vI .i64 y62.i, vI .i64 y62.j, vI .u32 y62.addr, vI .i64 y62.p.a.f, vI .i64 y62.p.a.pc, vI .i64 y62.p.b.f, vI .i64 y62.p.b.pc] 47, bs_60, Cel b53 #[vS A85 (d ++ ([y62] : List Race)).length c86] 35, Cel b57 #[vI .i64 (min (fi : Int) (y62.j : Int))] 3, rowR 47 7 enRace (vS A85 (d ++ ([y62] : List Race)).length c86) (d ++ ([y62] : List Race))]) (by kernel_rfl) (by kernel_rfl) (by kernel_rfl) (by kernel_rfl) (by kernel_rfl) hW 3 (by rfl) (Nat.le_of_ble_eq_true (by kernel_rfl)) (by kernel_rfl) (by rfl) ?_)); clear hA ac hW; intro w88 hW ac hA
                  refine wpListIn_nil <| blkN ?_
                  exact ⟨_, ⟨k + 1, d ++ ([y62] : List Race), A85, c86, (min (fi : Int) (y62.j : Int)), hsny62, hlty62, by rw [filt_snoc hy62, if_pos (by omega), ← hd], by exact hcc86, by rw [tk_snoc hy62, firstJ_snoc, ← hfi], rfl⟩, (hW.pick [2, 3, 4, 5] (by decide) rfl).pickG [0, 1, 2, 3, 4] rfl⟩)
                have h82 := of_decide_eq_false h82
                first
                | (exfalso; clear hA hW; omega)
                | (exfalso; clear hA hW; have q_ := hr4_ _ _ hy73 hy76; omega; done)
                | (exfalso; clear hA hW; have q_ := hr4_ _ _ hy76 hy73; omega; done)
                | (
                 refine wpIn_skip <| blkN ?_
                 exact ⟨_, ⟨k + 1, d, A, c, (min (fi : Int) (y62.j : Int)), hsny62, hlty62, by rw [filt_snoc hy62, if_neg (by omega), ← hd, List.append_nil], by exact hdc, by rw [tk_snoc hy62, firstJ_snoc, ← hfi], rfl⟩, (hW.pick [1, 2, 3, 4] (by decide) rfl).pickG [0, 1, 2, 3, 4] rfl⟩)))
             rw [h78] at hA
             have h78 := of_bne_f h78
             first
             | (exfalso; clear hA hW; omega)
             | (exfalso; clear hA hW; have q_ := hr4_ _ _ hy73 hy76; omega; done)
             | (exfalso; clear hA hW; have q_ := hr4_ _ _ hy76 hy73; omega; done)
             | (
              refine sq_k hA fun ac hA => sq_k hA fun ac hA => sq_k hA fun ac hA => sq_k hA fun ac hA => sq_k hA fun ac hA => sq_k hA fun ac hA => sq_k hA fun ac hA => sq_p (vB false) hA fun ac hA => sq_p (vB false) hA fun ac hA => sq_nil ?_; intro w89 hww89; have hW := hww89.1; have hfw89 := hww89.2; clear hww89
              refine thenN <| wpIn_cond_false (hA.eval (by kernel_rfl)) <| wpIn_skip <| thenN <| wpIn_seq <| wpIn_region_lit <| st_rdF (v := vI .i64 fi) hA (by kernel_rfl) (by kernel_rfl) (by kernel_rfl) (by kernel_rfl) hW.cls (rl b57 0 3) ?_; clear hA ac; intro ac hA
              refine st_rdF (v := pA b63 1) hA (by kernel_rfl) (by kernel_rfl) (by kernel_rfl) (by kernel_rfl) hW.cls (Rd.pure fun _ => by kernel_rfl) ?_; clear hA ac; intro ac hA
              refine st_rdF (v := vI .i64 y62.j) hA (by kernel_rfl) (by kernel_rfl) (by kernel_rfl) (by kernel_rfl) hW.cls (rl b63 1 0) ?_; clear hA ac; intro ac hA
              refine st_rdF (v := vI .i64 (min (fi : Int) (y62.j : Int))) hA (by kernel_rfl) (by kernel_rfl) (by kernel_rfl) (by kernel_rfl) hW.cls (Rd.pureE (v0 := vI .i64 (if (y62.j : Int) < (fi : Int) then (y62.j : Int) else (fi : Int))) (fun _ => by kernel_rfl) (congrArg (vI .i64) (min_ _ _))) ?_; clear hA ac; intro ac hA
              refine stF hA (by kernel_rfl) (by kernel_rfl) (by kernel_rfl) (by kernel_rfl) (RunsF.of (Runs.store (v := vI .i64 (min (fi : Int) (y62.j : Int))) (b := b57) (j := 0) (n := 1) (cs' := #[vI .i64 (min (fi : Int) (y62.j : Int))]) (H' := [Cel b63 #[vI .i64 y62.i, vI .i64 y62.j, vI .u32 y62.addr, vI .i64 y62.p.a.f, vI .i64 y62.p.a.pc, vI .i64 y62.p.b.f, vI .i64 y62.p.b.pc] 47, bs_60, Cel b53 #[vS A d.length c] 35, Cel b57 #[vI .i64 (min (fi : Int) (y62.j : Int))] 3, rowR 47 7 enRace (vS A d.length c) d]) (by kernel_rfl) (by kernel_rfl) (by kernel_rfl) (by kernel_rfl) (by kernel_rfl) hW 3 (by rfl) (Nat.le_of_ble_eq_true (by kernel_rfl)) (by kernel_rfl) (by rfl) ?_)); clear hA ac hW; intro w90 hW ac hA
              refine wpListIn_nil <| thenN <| wpIn_seq <| wpIn_region_lit <| st_rdF (v := pA b63 1) hA (by kernel_rfl) (by kernel_rfl) (by kernel_rfl) (by kernel_rfl) hW.cls (Rd.pure fun _ => by kernel_rfl) ?_; clear hA ac; intro ac hA
              refine st_rdF (v := vI .i64 y62.j) hA (by kernel_rfl) (by kernel_rfl) (by kernel_rfl) (by kernel_rfl) hW.cls (rl b63 1 0) ?_; clear hA ac; intro ac hA
              refine st_rdF (v := vI .i64 (cn : Int)) hA (by kernel_rfl) (by kernel_rfl) (by kernel_rfl) (by kernel_rfl) hW.cls (Rd.load (b := b3) (i := 0) (by kernel_rfl) (fun _ hw => show _ = _ from (hw.1).getG 0 rfl) (by kernel_rfl)) ?_; clear hA ac; intro ac hA
              refine st_rdF (v := vB (decide ((y62.j : Int) < (cn : Int)))) hA (by kernel_rfl) (by kernel_rfl) (by kernel_rfl) (by kernel_rfl) hW.cls (Rd.pure fun _ => by kernel_rfl) ?_; clear hA ac; intro ac hA
              refine wpListIn_nil <| thenN <| wpIn_cond_split (t := decide ((y62.j : Int) < (cn : Int))) (hA.eval (by kernel_rfl)) (fun h91 => ?_) (fun h91 => ?_)
              ·
               have h91 := of_decide_eq_true h91
               first
               | (exfalso; clear hA hW; omega)
               | (exfalso; clear hA hW; have q_ := hr4_ _ _ hy73 hy76; omega; done)
               | (exfalso; clear hA hW; have q_ := hr4_ _ _ hy76 hy73; omega; done)
               | (
                refine wpIn_region_lit <| st_rdF (v := vS A d.length c) hA (by kernel_rfl) (by kernel_rfl) (by kernel_rfl) (by kernel_rfl) hW.cls (rl b53 0 2) ?_; clear hA ac; intro ac hA
                refine st_rdF (v := vA #[vI .i64 y62.i, vI .i64 y62.j, vI .u32 y62.addr, vI .i64 y62.p.a.f, vI .i64 y62.p.a.pc, vI .i64 y62.p.b.f, vI .i64 y62.p.b.pc]) hA (by kernel_rfl) (by kernel_rfl) (by kernel_rfl) (by kernel_rfl) hW.cls (rl b63 0 0) ?_; clear hA ac; intro ac hA
                refine stF hA (by kernel_rfl) (by kernel_rfl) (by kernel_rfl) (by kernel_rfl) (RunsF.of (Runs.cells (fun b => vS (some ⟨b, 0, none⟩) 1 1) #[vI .i64 y62.i, vI .i64 y62.j, vI .u32 y62.addr, vI .i64 y62.p.a.f, vI .i64 y62.p.a.pc, vI .i64 y62.p.b.f, vI .i64 y62.p.b.pc] 47 (fun _ => by kernel_rfl) hW ?_)); clear hA ac hW; intro b92 w93 hW hb92 hfw93 ac hA
                refine stF hA (by kernel_rfl) (by kernel_rfl) (by kernel_rfl) (by kernel_rfl) (RunsF.of (Runs.appOwn (B := (some ⟨b92, 0, none⟩)) (k := 1) (E := 47) (sz := 7) (en := enRace) (l := d) (m := ([y62] : List Race)) (i := 5) (by kernel_rfl) (by kernel_rfl) elt_Race (by kernel_rfl) hW rfl (rowAt_cel ((hW).cel 0 rfl) ([y62] : List Race) (by rfl) elt_Race.len) (by first | omega | (simp; done) | (simp; omega)) (by first | omega | (simp; done) | (simp; omega)) ?_)); clear hA ac hW; intro A94 c95 w96 hW hcc95 ac hA
                refine stF hA (by kernel_rfl) (by kernel_rfl) (by kernel_rfl) (by kernel_rfl) (RunsF.of (Runs.store (v := vS A94 (d ++ ([y62] : List Race)).length c95) (b := b53) (j := 0) (n := 1) (cs' := #[vS A94 (d ++ ([y62] : List Race)).length c95]) (H' := [Cel b92 #[vI .i64 y62.i, vI .i64 y62.j, vI .u32 y62.addr, vI .i64 y62.p.a.f, vI .i64 y62.p.a.pc, vI .i64 y62.p.b.f, vI .i64 y62.p.b.pc] 47, Cel b63 #[vI .i64 y62.i, vI .i64 y62.j, vI .u32 y62.addr, vI .i64 y62.p.a.f, vI .i64 y62.p.a.pc, vI .i64 y62.p.b.f, vI .i64 y62.p.b.pc] 47, bs_60, Cel b53 #[vS A94 (d ++ ([y62] : List Race)).length c95] 35, Cel b57 #[vI .i64 (min (fi : Int) (y62.j : Int))] 3, rowR 47 7 enRace (vS A94 (d ++ ([y62] : List Race)).length c95) (d ++ ([y62] : List Race))]) (by kernel_rfl) (by kernel_rfl) (by kernel_rfl) (by kernel_rfl) (by kernel_rfl) hW 3 (by rfl) (Nat.le_of_ble_eq_true (by kernel_rfl)) (by kernel_rfl) (by rfl) ?_)); clear hA ac hW; intro w97 hW ac hA
                refine wpListIn_nil <| blkN ?_
                exact ⟨_, ⟨k + 1, d ++ ([y62] : List Race), A94, c95, (min (fi : Int) (y62.j : Int)), hsny62, hlty62, by rw [filt_snoc hy62, if_pos (by omega), ← hd], by exact hcc95, by rw [tk_snoc hy62, firstJ_snoc, ← hfi], rfl⟩, (hW.pick [2, 3, 4, 5] (by decide) rfl).pickG [0, 1, 2, 3, 4] rfl⟩)
              have h91 := of_decide_eq_false h91
              first
              | (exfalso; clear hA hW; omega)
              | (exfalso; clear hA hW; have q_ := hr4_ _ _ hy73 hy76; omega; done)
              | (exfalso; clear hA hW; have q_ := hr4_ _ _ hy76 hy73; omega; done)
              | (
               refine wpIn_skip <| blkN ?_
               exact ⟨_, ⟨k + 1, d, A, c, (min (fi : Int) (y62.j : Int)), hsny62, hlty62, by rw [filt_snoc hy62, if_neg (by omega), ← hd, List.append_nil], by exact hdc, by rw [tk_snoc hy62, firstJ_snoc, ← hfi], rfl⟩, (hW.pick [1, 2, 3, 4] (by decide) rfl).pickG [0, 1, 2, 3, 4] rfl⟩))))))
        ·
         clear hA ac hW; intro D98 xs_ Hk_ w99 ac hS_ hJ_ hA hW
         obtain ⟨k, d, A, c, fi, hpre_, hk_, hd, hdc, hfi, rfl⟩ := hJ_
         have hke : k = (raceL l).length := by have := congrArg List.length (hS_.symm.trans hpre_); simp at this; omega
         clear hpre_ hS_
         replace hW : Ws w No [Cel b53 #[vS A d.length c] 35, Cel b57 #[vI .i64 fi] 3, rowR 47 7 enRace (vS A d.length c) d, DefR D98, Cel b55 #[vS none 0 0] 35, OrdR n30 n31 n32 (l.take cn) n33 n34 n35 n36 n37 n38 n39, OrdR n19 n20 n21 l n22 n23 n24 n25 n26 n27 n28, Cel b5 #[vB false] 4] [Cel b3 #[vI .i64 (cn : Int)] 3, Cel b1 #[vS A_l l.length c_l] 22, g49, g46, roR A_l 9 enEvent l] w99 := hW
         refine blkN <| thenN <| wpIn_seq <| wpIn_seq ?_
         rw [List.take_of_length_le (by omega)] at hd hfi; rw [race_cut hev hcn_] at hd
         refine wpIn_region_lit <| st_rdF (v := vF (.func 36) #[] lb48) hA (by kernel_rfl) (by kernel_rfl) (by kernel_rfl) (by kernel_rfl) hW.cls (Rd.pure fun _ => by kernel_rfl) ?_; clear hA ac; intro ac hA
         refine wpListIn_nil <| thenN <| wpIn_block ?_
         have hW := hW.addNil 47 7 enRace
         refine wp_range (encs := (fun x_ : Race × Nat => #[vI .i64 ((x_.2 : Nat) : Int), x_.1.v])) (Sx := (· = (raceL (l.take cn)).zipIdx)) hA (by kernel_rfl) (by kernel_rfl) (enters_of Tryz.func36 (by kernel_rfl) rfl) (by kernel_rfl) (fun _ => rfl) hIg49 (List.forall_mem_singleton.2 (List.mem_of_getElem? (i := 2) rfl)) (fun pre_ H_ => ∃ k : Nat, ∃ d2 : List Race, ∃ A2 : Option Addr, ∃ c2 : Nat, pre_ = (raceL (l.take cn)).zipIdx.take k ∧ k ≤ (raceL (l.take cn)).length ∧ (d2 = (raceL (l.take cn)).take k) ∧ (d2.length ≤ c2) ∧ H_ = [Cel b55 #[vS A2 d2.length c2] 35, rowR 47 7 enRace (vS A2 d2.length c2) d2]) (fun _ _ _ => False) (H := [Cel b55 #[vS none 0 0] 35, rowR 47 7 enRace (vS none 0 0) ([] : List Race)]) (K := [Cel b53 #[vS A d.length c] 35, Cel b57 #[vI .i64 fi] 3, rowR 47 7 enRace (vS A d.length c) d, DefR D98, OrdR n30 n31 n32 (l.take cn) n33 n34 n35 n36 n37 n38 n39, OrdR n19 n20 n21 l n22 n23 n24 n25 n26 n27 n28, Cel b5 #[vB false] 4]) (hW.pick [5, 0, 1, 2, 3, 4, 6, 7, 8] (by decide) rfl) ⟨0, [], none, 0, rfl, Nat.zero_le _, by rfl, by simp, rfl⟩ ?_ ?_ ?_
         ·
          clear hA ac hW; intro l_100 rd_100 bs_100 pre_ x_ Hk_ w101 T_100 ac hrd_100 hbs_100 hbr_100 hok_ hJ_ hA hW hB_100 hT_100
          obtain ⟨k, d2, A2, c2, rfl, hk_, hd2, hdc2, rfl⟩ := hJ_
          obtain ⟨y102, rfl, hy102, hlty102, hsny102⟩ := comes_zip hok_ hk_
          replace hA : Fm 171 [] [(0, vS A_l l.length c_l), (1, vI .i64 (cn : Int)), (2, pA b1 0), (3, pA b3 0), (4, pA b5 0), (5, pA n19 0), (6, vI .i64 0), (7, pA n30 0), (8, vI .i64 0), (9, vF (.func 36) #[] lb45), (10, vF (.func 36) #[] lb48), (11, pA b53 0), (12, pA b55 0), (13, pA b57 0), (20, vS A_l l.length c_l), (21, vB (fewOk l (50))), (22, vB false), (23, vB false), (24, vI .i64 (cn : Int)), (25, vB false), (26, vB false), (27, vB false), (28, vI .i64 (cn : Int)), (29, vS A_l l.length c_l), (30, vI .i64 (l.length : Int)), (34, vT #[pA n19 0, vI .i64 0]), (35, vS A_l l.length c_l), (36, vT #[pA n19 0, vI .i64 0]), (37, pA n19 0), (38, vI .i64 0), (39, vT #[pA n30 0, vI .i64 0]), (40, vS A_l l.length c_l), (41, vI .i64 (cn : Int)), (42, vS A_l (l.take cn).length c_l), (43, vT #[pA n30 0, vI .i64 0]), (44, pA n30 0), (45, vI .i64 0), (46, vI .i64 0), (47, vI .i64 (0)), (48, vB false), (50, pA n19 0), (51, vF (.func 36) #[] lb45), (52, pA n30 0), (53, vF (.func 36) #[] lb48), (54, vI .i64 0), (55, vI .i64 (0)), (56, vB false), (57, vB false), (58, vF (.func 36) #[] lb45), (59, vB false), (60, vB false), (61, vB false), (62, vF (.func 36) #[] lb48), (63, vB false), (64, vB false), (65, vS A_l l.length c_l), (66, vI .i64 (l.length : Int)), (67, vF (.func 36) #[] lb45), (132, vF (.func 36) #[] lb48), (133, vI .i64 (k : Int)), (134, y102.v)] ac := hA.sub (by and_intros <;> first | kernel_rfl | trivial)
          have hdl2_ : d2.length ≤ 10000 := by rw [hd2, List.length_take]; omega
          refine wpIn_region_lit <| stF hA (by kernel_rfl) (by kernel_rfl) (by kernel_rfl) (by kernel_rfl) (RunsF.of (Runs.cells (fun b => pA b 0) #[vI .i64 0, vI .i64 0, vI .u32 0, vI .i64 0, vI .i64 0, vI .i64 0, vI .i64 0] 47 (fun _ => by kernel_rfl) hW ?_)); clear hA ac hW; intro b103 w104 hW hb103 hfw104 ac hA
          refine stF hA (by kernel_rfl) (by kernel_rfl) (by kernel_rfl) (by kernel_rfl) (RunsF.of (Runs.store (v := y102.v) (b := b103) (j := 0) (n := 7) (cs' := #[vI .i64 y102.i, vI .i64 y102.j, vI .u32 y102.addr, vI .i64 y102.p.a.f, vI .i64 y102.p.a.pc, vI .i64 y102.p.b.f, vI .i64 y102.p.b.pc]) (H' := [Cel b103 #[vI .i64 y102.i, vI .i64 y102.j, vI .u32 y102.addr, vI .i64 y102.p.a.f, vI .i64 y102.p.a.pc, vI .i64 y102.p.b.f, vI .i64 y102.p.b.pc] 47, rd_100, Cel b55 #[vS A2 d2.length c2] 35, rowR 47 7 enRace (vS A2 d2.length c2) d2]) (by kernel_rfl) (by kernel_rfl) (by kernel_rfl) (by kernel_rfl) (by kernel_rfl) hW 0 (by rfl) (Nat.le_of_ble_eq_true (by kernel_rfl)) (by kernel_rfl) (by rfl) ?_)); clear hA ac hW; intro w105 hW ac hA
          refine wpListIn_nil <| thenN <| begun (bs := bs_100) (H' := [Cel b103 #[vI .i64 y102.i, vI .i64 y102.j, vI .u32 y102.addr, vI .i64 y102.p.a.f, vI .i64 y102.p.a.pc, vI .i64 y102.p.b.f, vI .i64 y102.p.b.pc] 47, bs_100, Cel b55 #[vS A2 d2.length c2] 35, rowR 47 7 enRace (vS A2 d2.length c2) d2]) hW 1 rfl (fun b hb => by rw [hbs_100] at hb; rw [hrd_100]; exact hb) rfl ?_; clear hW; intro w106 hW
          refine wpIn_block <| wpIn_region_lit <| st_rdF (v := vS A2 d2.length c2) hA (by kernel_rfl) (by kernel_rfl) (by kernel_rfl) (by kernel_rfl) hW.cls (rl b55 0 2) ?_; clear hA ac; intro ac hA
          refine st_rdF (v := vA #[vI .i64 y102.i, vI .i64 y102.j, vI .u32 y102.addr, vI .i64 y102.p.a.f, vI .i64 y102.p.a.pc, vI .i64 y102.p.b.f, vI .i64 y102.p.b.pc]) hA (by kernel_rfl) (by kernel_rfl) (by kernel_rfl) (by kernel_rfl) hW.cls (rl b103 0 0) ?_; clear hA ac; intro ac hA
          refine stF hA (by kernel_rfl) (by kernel_rfl) (by kernel_rfl) (by kernel_rfl) (RunsF.of (Runs.cells (fun b => vS (some ⟨b, 0, none⟩) 1 1) #[vI .i64 y102.i, vI .i64 y102.j, vI .u32 y102.addr, vI .i64 y102.p.a.f, vI .i64 y102.p.a.pc, vI .i64 y102.p.b.f, vI .i64 y102.p.b.pc] 47 (fun _ => by kernel_rfl) hW ?_)); clear hA ac hW; intro b107 w108 hW hb107 hfw108 ac hA
          refine stF hA (by kernel_rfl) (by kernel_rfl) (by kernel_rfl) (by kernel_rfl) (RunsF.of (Runs.appOwn (B := (some ⟨b107, 0, none⟩)) (k := 1) (E := 47) (sz := 7) (en := enRace) (l := d2) (m := ([y102] : List Race)) (i := 4) (by kernel_rfl) (by kernel_rfl) elt_Race (by kernel_rfl) hW rfl (rowAt_cel ((hW).cel 0 rfl) ([y102] : List Race) (by rfl) elt_Race.len) (by first | omega | (simp; done) | (simp; omega)) (by first | omega | (simp; done) | (simp; omega)) ?_)); clear hA ac hW; intro A109 c110 w111 hW hcc110 ac hA
          refine stF hA (by kernel_rfl) (by kernel_rfl) (by kernel_rfl) (by kernel_rfl) (RunsF.of (Runs.store (v := vS A109 (d2 ++ ([y102] : List Race)).length c110) (b := b55) (j := 0) (n := 1) (cs' := #[vS A109 (d2 ++ ([y102] : List Race)).length c110]) (H' := [Cel b107 #[vI .i64 y102.i, vI .i64 y102.j, vI .u32 y102.addr, vI .i64 y102.p.a.f, vI .i64 y102.p.a.pc, vI .i64 y102.p.b.f, vI .i64 y102.p.b.pc] 47, Cel b103 #[vI .i64 y102.i, vI .i64 y102.j, vI .u32 y102.addr, vI .i64 y102.p.a.f, vI .i64 y102.p.a.pc, vI .i64 y102.p.b.f, vI .i64 y102.p.b.pc] 47, bs_100, Cel b55 #[vS A109 (d2 ++ ([y102] : List Race)).length c110] 35, rowR 47 7 enRace (vS A109 (d2 ++ ([y102] : List Race)).length c110) (d2 ++ ([y102] : List Race))]) (by kernel_rfl) (by kernel_rfl) (by kernel_rfl) (by kernel_rfl) (by kernel_rfl) hW 3 (by rfl) (Nat.le_of_ble_eq_true (by kernel_rfl)) (by kernel_rfl) (by rfl) ?_)); clear hA ac hW; intro w112 hW ac hA
          refine wpListIn_nil <| blkN ?_
          exact ⟨_, ⟨k + 1, d2 ++ ([y102] : List Race), A109, c110, hsny102, hlty102, by rw [tk_snoc hy102, ← hd2], by exact hcc110, rfl⟩, (hW.pick [2, 3, 4] (by decide) rfl).pickG [0, 1, 2, 3, 4] rfl⟩
         ·
          clear hA ac hW; intro D113 xs_ Hk_ w114 ac hS_ hJ_ hA hW
          obtain ⟨k, d2, A2, c2, hpre_, hk_, hd2, hdc2, rfl⟩ := hJ_
          have hke : k = (raceL (l.take cn)).length := by have := congrArg List.length (hS_.symm.trans hpre_); simp at this; omega
          clear hpre_ hS_
          replace hW : Ws w No [Cel b55 #[vS A2 d2.length c2] 35, rowR 47 7 enRace (vS A2 d2.length c2) d2, DefR D113, Cel b53 #[vS A d.length c] 35, Cel b57 #[vI .i64 fi] 3, rowR 47 7 enRace (vS A d.length c) d, DefR D98, OrdR n30 n31 n32 (l.take cn) n33 n34 n35 n36 n37 n38 n39, OrdR n19 n20 n21 l n22 n23 n24 n25 n26 n27 n28, Cel b5 #[vB false] 4] [Cel b3 #[vI .i64 (cn : Int)] 3, Cel b1 #[vS A_l l.length c_l] 22, g49, g46, roR A_l 9 enEvent l] w114 := hW
          refine blkN <| thenN <| wpIn_seq <| wpIn_seq ?_
          have hff_ := firstJ_le (raceL l) (l.length : Int); rw [← hfi] at hff_; have hfn_ := hff_.1; have hd2e_ : d2 = raceL (l.take cn) := by rw [hd2]; exact List.take_of_length_le (by omega)
          have hxy_ : d = d2 := hd.trans hd2e_.symm; have hdl3_ : d.length ≤ 10000 := by rw [hd]; omega
          have hdl4_ : d2.length ≤ 10000 := by rw [hd2e_]; omega
          refine wpIn_region_lit <| st_rdF (v := vI .i64 0) hA (by kernel_rfl) (by kernel_rfl) (by kernel_rfl) (by kernel_rfl) hW.cls (Rd.pure fun _ => by kernel_rfl) ?_; clear hA ac; intro ac hA
          refine wpListIn_nil <| thenN <| wpIn_block <| wpIn_loop_m (fun m_ ac_ wl_ => ∃ j : Nat, m_ = l.length - j ∧ (j ≤ l.length) ∧ Fm 171 [mk_ D113, mk_ D98] [(2, pA b1 0), (3, pA b3 0), (4, pA b5 0), (5, pA n19 0), (11, pA b53 0), (12, pA b55 0), (13, pA b57 0), (18, vI .i64 (j : Int))] ac_ ∧ Ws w No [Cel b55 #[vS A2 d2.length c2] 35, rowR 47 7 enRace (vS A2 d2.length c2) d2, DefR D113, Cel b53 #[vS A d.length c] 35, Cel b57 #[vI .i64 fi] 3, rowR 47 7 enRace (vS A d.length c) d, DefR D98, OrdR n30 n31 n32 (l.take cn) n33 n34 n35 n36 n37 n38 n39, OrdR n19 n20 n21 l n22 n23 n24 n25 n26 n27 n28, Cel b5 #[vB false] 4] [Cel b3 #[vI .i64 (cn : Int)] 3, Cel b1 #[vS A_l l.length c_l] 22, g49, g46, roR A_l 9 enEvent l] wl_) _ ⟨0, rfl, by omega, hA.sub (by and_intros <;> first | kernel_rfl | trivial), (hW.pick [0, 1, 2, 3, 4, 5, 6, 7, 8, 9] (by decide) rfl).pickG [0, 1, 2, 3, 4] rfl⟩ ?_
          clear hA ac hW; rintro m_ ac w115 ⟨j, rfl, hj, hA, hW⟩
          refine wpIn_seq <| wpIn_seq <| wpIn_region_lit <| st_rdF (v := vI .i64 (j : Int)) hA (by kernel_rfl) (by kernel_rfl) (by kernel_rfl) (by kernel_rfl) hW.cls (Rd.pure fun _ => by kernel_rfl) ?_; clear hA ac; intro ac hA
          refine st_rdF (v := vI .i64 fi) hA (by kernel_rfl) (by kernel_rfl) (by kernel_rfl) (by kernel_rfl) hW.cls (rl b57 0 4) ?_; clear hA ac; intro ac hA
          refine st_rdF (v := vB (decide ((j : Int) < (fi : Int)))) hA (by kernel_rfl) (by kernel_rfl) (by kernel_rfl) (by kernel_rfl) hW.cls (Rd.pure fun _ => by kernel_rfl) ?_; clear hA ac; intro ac hA
          refine wpListIn_nil <| thenN <| wpIn_cond_split (t := decide ((j : Int) < (fi : Int))) (hA.eval (by kernel_rfl)) (fun h116 => ?_) (fun h116 => ?_)
          ·
           have h116 := of_decide_eq_true h116
           first
           | (exfalso; clear hA hW; omega)
           | (
            refine wpIn_skip <| thenN <| wpIn_seq <| wpIn_block <| wpIn_seq <| wpIn_region_lit <| st_rdF (v := vI .i64 0) hA (by kernel_rfl) (by kernel_rfl) (by kernel_rfl) (by kernel_rfl) hW.cls (Rd.pure fun _ => by kernel_rfl) ?_; clear hA ac; intro ac hA
            refine wpListIn_nil <| thenN <| wpIn_block <| wpIn_loop_m (fun m_ ac_ wl_ => ∃ i : Nat, m_ = j - i ∧ (i ≤ j) ∧ Fm 171 [mk_ D113, mk_ D98] [(2, pA b1 0), (3, pA b3 0), (4, pA b5 0), (5, pA n19 0), (11, pA b53 0), (12, pA b55 0), (13, pA b57 0), (18, vI .i64 (j : Int)), (19, vI .i64 (i : Int))] ac_ ∧ Ws w No [Cel b55 #[vS A2 d2.length c2] 35, rowR 47 7 enRace (vS A2 d2.length c2) d2, DefR D113, Cel b53 #[vS A d.length c] 35, Cel b57 #[vI .i64 fi] 3, rowR 47 7 enRace (vS A d.length c) d, DefR D98, OrdR n30 n31 n32 (l.take cn) n33 n34 n35 n36 n37 n38 n39, OrdR n19 n20 n21 l n22 n23 n24 n25 n26 n27 n28, Cel b5 #[vB false] 4] [Cel b3 #[vI .i64 (cn : Int)] 3, Cel b1 #[vS A_l l.length c_l] 22, g49, g46, roR A_l 9 enEvent l] wl_) _ ⟨0, rfl, by omega, hA.sub (by and_intros <;> first | kernel_rfl | trivial), (hW.pick [0, 1, 2, 3, 4, 5, 6, 7, 8, 9] (by decide) rfl).pickG [0, 1, 2, 3, 4] rfl⟩ ?_
            clear hA ac hW; rintro m_ ac w117 ⟨i, rfl, hi, hA, hW⟩
            refine wpIn_seq <| wpIn_seq <| wpIn_region_lit <| st_rdF (v := vI .i64 (i : Int)) hA (by kernel_rfl) (by kernel_rfl) (by kernel_rfl) (by kernel_rfl) hW.cls (Rd.pure fun _ => by kernel_rfl) ?_; clear hA ac; intro ac hA
            refine st_rdF (v := vI .i64 (j : Int)) hA (by kernel_rfl) (by kernel_rfl) (by kernel_rfl) (by kernel_rfl) hW.cls (Rd.pure fun _ => by kernel_rfl) ?_; clear hA ac; intro ac hA
            refine st_rdF (v := vB (decide ((i : Int) < (j : Int)))) hA (by kernel_rfl) (by kernel_rfl) (by kernel_rfl) (by kernel_rfl) hW.cls (Rd.pure fun _ => by kernel_rfl) ?_; clear hA ac; intro ac hA
            refine wpListIn_nil <| thenN <| wpIn_cond_split (t := decide ((i : Int) < (j : Int))) (hA.eval (by kernel_rfl)) (fun h118 => ?_) (fun h118 => ?_)
            ·
             have h118 := of_decide_eq_true h118
             first
             | (exfalso; clear hA hW; omega)
             | (
              refine wpIn_skip <| thenN <| wpIn_seq <| wpIn_block <| wpIn_seq ?_
              obtain ⟨y119, hy119⟩ : ∃ y, l[i]? = some y := ⟨_, List.getElem?_eq_getElem (by omega)⟩
              obtain ⟨b120, o121, rfl, hbb120⟩ := row_some ((hW).getG 4 rfl) hy119
              obtain ⟨y122, hy122⟩ : ∃ y, l[j]? = some y := ⟨_, List.getElem?_eq_getElem (by omega)⟩
              have hcl_ : evConf y119 y122 = true → befE l (i : Int) (j : Int) = true := race_clear (by omega) hy119 hy122 (fun y_ hy_ => by have q_ := hff_.2 y_ hy_; omega)
              refine q_regionF (by kernel_rfl) (by kernel_rfl) (by kernel_rfl) hW <| sq_q (vS (some ⟨b120, o121, none⟩) l.length c_l) hA (Rd.load (b := b1) (i := 0) (by kernel_rfl) (fun _ hw => show _ = _ from (hw.1).getG 1 rfl) (by kernel_rfl)) fun ac hA => sq_p (vI .i64 (i : Int)) hA fun ac hA => sq_q (vP (some ⟨b120, o121 + i * 9, none⟩)) hA (Rd.indexAddr (e := 51) (sz := 9) (b := b120) (off := o121) (n := l.length) (c := c_l) (k := i) (by kernel_rfl) (by kernel_rfl) (by first | omega | (simp; done) | (simp; omega)) (fun _ => by kernel_rfl) (fun _ => by kernel_rfl)) fun ac hA => sq_q (vA #[vI .i64 y119.g, vI .i64 y119.kind, vI .i64 y119.site.f, vI .i64 y119.site.pc, vI .u32 y119.addr, vI .i64 y119.child, vI .i64 y119.obj, vI .i64 y119.n, vI .i64 y119.trap]) hA (Rd.loadRow (b := b120) (i := o121 + i * 9) (xs := [vI .i64 y119.g, vI .i64 y119.kind, vI .i64 y119.site.f, vI .i64 y119.site.pc, vI .u32 y119.addr, vI .i64 y119.child, vI .i64 y119.obj, vI .i64 y119.n, vI .i64 y119.trap]) (by kernel_rfl) (fun _ hw => row_ld ((hw.1).getG 4 rfl) hy119 (Fr.refl No _) (fun h => h) 0 9 (by kernel_rfl)) (by kernel_rfl)) fun ac hA => sq_q (vS (some ⟨b120, o121, none⟩) l.length c_l) hA (Rd.load (b := b1) (i := 0) (by kernel_rfl) (fun _ hw => show _ = _ from (hw.1).getG 1 rfl) (by kernel_rfl)) fun ac hA => sq_p (vI .i64 (j : Int)) hA fun ac hA => sq_q (vP (some ⟨b120, o121 + j * 9, none⟩)) hA (Rd.indexAddr (e := 51) (sz := 9) (b := b120) (off := o121) (n := l.length) (c := c_l) (k := j) (by kernel_rfl) (by kernel_rfl) (by first | omega | (simp; done) | (simp; omega)) (fun _ => by kernel_rfl) (fun _ => by kernel_rfl)) fun ac hA => sq_q (vA #[vI .i64 y122.g, vI .i64 y122.kind, vI .i64 y122.site.f, vI .i64 y122.site.pc, vI .u32 y122.addr, vI .i64 y122.child, vI .i64 y122.obj, vI .i64 y122.n, vI .i64 y122.trap]) hA (Rd.loadRow (b := b120) (i := o121 + j * 9) (xs := [vI .i64 y122.g, vI .i64 y122.kind, vI .i64 y122.site.f, vI .i64 y122.site.pc, vI .u32 y122.addr, vI .i64 y122.child, vI .i64 y122.obj, vI .i64 y122.n, vI .i64 y122.trap]) (by kernel_rfl) (fun _ hw => row_ld ((hw.1).getG 4 rfl) hy122 (Fr.refl No _) (fun h => h) 0 9 (by kernel_rfl)) (by kernel_rfl)) fun ac hA => sq_call (v := vB (evConf y119 y122)) hA (by kernel_rfl) (by kernel_rfl) (by kernel_rfl) (fun _ => by kernel_rfl) (Cls.callNC fun wx hwx => e_r16conf y119 y122 wx) ?_; clear hA ac; intro ac hA
              refine sq_p (vB (evConf y119 y122)) hA ?_; clear hA ac; intro ac hA
              rcases Bool.eq_false_or_eq_true (evConf y119 y122) with h123 | h123
              ·
               rw [h123] at hA
               first
               | (exfalso; clear hA hW; omega)
               | (exfalso; clear hA hW; exact absurd (hcl_ h123) (by rw [h123]; decide); done)
               | (exfalso; clear hA hW; exact absurd (hcl_ h123) h123; done)
               | (exfalso; clear hA hW; rw [hcl_ h123] at h123; exact absurd h123 (by decide); done)
               | (
                refine sq_p (pA n19 0) hA fun ac hA => sq_p (vI .i64 (i : Int)) hA fun ac hA => sq_p (vI .i64 (j : Int)) hA fun ac hA => sq_call (v := vB (befE l (i : Int) (j : Int))) hA (by kernel_rfl) (by kernel_rfl) (by kernel_rfl) (fun _ => by kernel_rfl) (Cls.callNC fun wx hwx => e_obefore n19 n20 n21 l n22 n23 n24 n25 n26 n27 n28 (i : Int) (j : Int) wx ((hwx.1).get 8 rfl) ((hwx.1).lt _ (List.mem_of_getElem? (i := 8) rfl)) (by assumption) (by first | omega | decide | assumption | exact ⟨by omega, by omega⟩) (by first | omega | decide | assumption | exact ⟨by omega, by omega⟩)) ?_; clear hA ac; intro ac hA
                refine sq_p (vB (!(befE l (i : Int) (j : Int)))) hA fun ac hA => sq_p (vB (!(befE l (i : Int) (j : Int)))) hA fun ac hA => sq_nil ?_; intro w124 hww124; have hW := hww124.1; have hfw124 := hww124.2; clear hww124
                refine thenN <| wpIn_cond_split (t := !(befE l (i : Int) (j : Int))) (hA.eval (by kernel_rfl)) (fun h125 => ?_) (fun h125 => ?_)
                ·
                 have h125 := not_t h125
                 first
                 | (exfalso; clear hA hW; omega)
                 | (exfalso; clear hA hW; exact absurd (hcl_ h123) (by rw [h125]; decide); done)
                 | (exfalso; clear hA hW; exact absurd (hcl_ h123) h125; done)
                 | (exfalso; clear hA hW; rw [hcl_ h123] at h125; exact absurd h125 (by decide); done)
                 | (
                  fail)
                have h125 := not_f h125
                first
                | (exfalso; clear hA hW; omega)
                | (exfalso; clear hA hW; exact absurd (hcl_ h123) (by rw [h125]; decide); done)
                | (exfalso; clear hA hW; exact absurd (hcl_ h123) h125; done)
                | (exfalso; clear hA hW; rw [hcl_ h123] at h125; exact absurd h125 (by decide); done)
                | (
                 refine wpIn_skip <| blkN <| thenN <| wpIn_region_lit <| st_rdF (v := vI .i64 (i : Int)) hA (by kernel_rfl) (by kernel_rfl) (by kernel_rfl) (by kernel_rfl) hW.cls (Rd.pure fun _ => by kernel_rfl) ?_; clear hA ac; intro ac hA
                 refine st_rdF (v := vI .i64 ((i + 1 : Nat) : Int)) hA (by kernel_rfl) (by kernel_rfl) (by kernel_rfl) (by kernel_rfl) hW.cls (Rd.pureE (v0 := vI .i64 (IntKind.i64.wrap ((i : Int) + 1))) (fun _ => by kernel_rfl) (congrArg (vI .i64) ((w_i64 (x := (i : Int) + 1) (by omega) (by omega)).trans (by omega)))) ?_; clear hA ac; intro ac hA
                 refine st_rdF (v := vI .i64 ((i + 1 : Nat) : Int)) hA (by kernel_rfl) (by kernel_rfl) (by kernel_rfl) (by kernel_rfl) hW.cls (Rd.pure fun _ => by kernel_rfl) ?_; clear hA ac; intro ac hA
                 refine wpListIn_nil <| thenN ?_
                 exact ⟨j - (i + 1), by omega, i + 1, rfl, by omega, hA.sub (by and_intros <;> first | kernel_rfl | trivial), (hW.pick [0, 1, 2, 3, 4, 5, 6, 7, 8, 9] (by decide) rfl).pickG [0, 1, 2, 3, 4] rfl⟩))
              rw [h123] at hA
              first
              | (exfalso; clear hA hW; omega)
              | (
               refine sq_k hA fun ac hA => sq_k hA fun ac hA => sq_k hA fun ac hA => sq_k hA fun ac hA => sq_k hA fun ac hA => sq_p (vB false) hA fun ac hA => sq_nil ?_; intro w126 hww126; have hW := hww126.1; have hfw126 := hww126.2; clear hww126
               refine thenN <| wpIn_cond_false (hA.eval (by kernel_rfl)) <| wpIn_skip <| blkN <| thenN <| wpIn_region_lit <| st_rdF (v := vI .i64 (i : Int)) hA (by kernel_rfl) (by kernel_rfl) (by kernel_rfl) (by kernel_rfl) hW.cls (Rd.pure fun _ => by kernel_rfl) ?_; clear hA ac; intro ac hA
               refine st_rdF (v := vI .i64 ((i + 1 : Nat) : Int)) hA (by kernel_rfl) (by kernel_rfl) (by kernel_rfl) (by kernel_rfl) hW.cls (Rd.pureE (v0 := vI .i64 (IntKind.i64.wrap ((i : Int) + 1))) (fun _ => by kernel_rfl) (congrArg (vI .i64) ((w_i64 (x := (i : Int) + 1) (by omega) (by omega)).trans (by omega)))) ?_; clear hA ac; intro ac hA
               refine st_rdF (v := vI .i64 ((i + 1 : Nat) : Int)) hA (by kernel_rfl) (by kernel_rfl) (by kernel_rfl) (by kernel_rfl) hW.cls (Rd.pure fun _ => by kernel_rfl) ?_; clear hA ac; intro ac hA
               refine wpListIn_nil <| thenN ?_
               exact ⟨j - (i + 1), by omega, i + 1, rfl, by omega, hA.sub (by and_intros <;> first | kernel_rfl | trivial), (hW.pick [0, 1, 2, 3, 4, 5, 6, 7, 8, 9] (by decide) rfl).pickG [0, 1, 2, 3, 4] rfl⟩))
            have h118 := of_decide_eq_false h118
            first
            | (exfalso; clear hA hW; omega)
            | (
             refine wpIn_exit <| thenX <| thenX <| blkX <| blkN <| thenN <| wpIn_region_lit <| st_rdF (v := vI .i64 (j : Int)) hA (by kernel_rfl) (by kernel_rfl) (by kernel_rfl) (by kernel_rfl) hW.cls (Rd.pure fun _ => by kernel_rfl) ?_; clear hA ac; intro ac hA
             refine st_rdF (v := vI .i64 ((j + 1 : Nat) : Int)) hA (by kernel_rfl) (by kernel_rfl) (by kernel_rfl) (by kernel_rfl) hW.cls (Rd.pureE (v0 := vI .i64 (IntKind.i64.wrap ((j : Int) + 1))) (fun _ => by kernel_rfl) (congrArg (vI .i64) ((w_i64 (x := (j : Int) + 1) (by omega) (by omega)).trans (by omega)))) ?_; clear hA ac; intro ac hA
             refine st_rdF (v := vI .i64 ((j + 1 : Nat) : Int)) hA (by kernel_rfl) (by kernel_rfl) (by kernel_rfl) (by kernel_rfl) hW.cls (Rd.pure fun _ => by kernel_rfl) ?_; clear hA ac; intro ac hA
             refine wpListIn_nil <| thenN ?_
             exact ⟨l.length - (j + 1), by omega, j + 1, rfl, by omega, hA.sub (by and_intros <;> first | kernel_rfl | trivial), (hW.pick [0, 1, 2, 3, 4, 5, 6, 7, 8, 9] (by decide) rfl).pickG [0, 1, 2, 3, 4] rfl⟩))
          have h116 := of_decide_eq_false h116
          first
          | (exfalso; clear hA hW; omega)
          | (
           refine wpIn_exit <| thenX <| thenX <| blkX <| thenN <| wpIn_seq <| wpIn_region_lit <| st_rdF (v := vS A d.length c) hA (by kernel_rfl) (by kernel_rfl) (by kernel_rfl) (by kernel_rfl) hW.cls (rl b53 0 3) ?_; clear hA ac; intro ac hA
           refine st_rdF (v := vS A2 d2.length c2) hA (by kernel_rfl) (by kernel_rfl) (by kernel_rfl) (by kernel_rfl) hW.cls (rl b55 0 0) ?_; clear hA ac; intro ac hA
           refine stF hA (by kernel_rfl) (by kernel_rfl) (by kernel_rfl) (by kernel_rfl) (RunsF.of (Runs.callN (v := vB (decide (d = d2))) (fun _ => by kernel_rfl) hW (e_r21same A c d A2 c2 d2 w115 (rowR_at ((hW).get 5 rfl) elt_Race.len) (own_cap ((hW).get 5 rfl)) (rowR_at ((hW).get 1 rfl) elt_Race.len) (own_cap ((hW).get 1 rfl)) (by first | omega | decide | assumption | exact ⟨by omega, by omega⟩) (by first | omega | decide | assumption | exact ⟨by omega, by omega⟩)) ?_)); clear hA ac hW; intro w127 hW hfw127 ac hA
           refine st_rdF (v := vB (decide (d = d2))) hA (by kernel_rfl) (by kernel_rfl) (by kernel_rfl) (by kernel_rfl) hW.cls (Rd.pure fun _ => by kernel_rfl) ?_; clear hA ac; intro ac hA
           rcases Bool.eq_false_or_eq_true (decide (d = d2)) with h128 | h128
           ·
            rw [h128] at hA
            first
            | (exfalso; clear hA hW; omega)
            | (
             refine stF hA (by kernel_rfl) (by kernel_rfl) (by kernel_rfl) (by kernel_rfl) (RunsF.of (Runs.callN (v := vB true) (fun _ => by kernel_rfl) hW (e_works w127) ?_)); clear hA ac hW; intro w129 hW hfw129 ac hA
             refine st_rdF (v := vB true) hA (by kernel_rfl) (by kernel_rfl) (by kernel_rfl) (by kernel_rfl) hW.cls (Rd.pure fun _ => by kernel_rfl) ?_; clear hA ac; intro ac hA
             refine stF hA (by kernel_rfl) (by kernel_rfl) (by kernel_rfl) (by kernel_rfl) (RunsF.of (Runs.store (v := vB true) (b := b5) (j := 0) (n := 1) (cs' := #[vB true]) (H' := [Cel b55 #[vS A2 d2.length c2] 35, rowR 47 7 enRace (vS A2 d2.length c2) d2, DefR D113, Cel b53 #[vS A d.length c] 35, Cel b57 #[vI .i64 fi] 3, rowR 47 7 enRace (vS A d.length c) d, DefR D98, OrdR n30 n31 n32 (l.take cn) n33 n34 n35 n36 n37 n38 n39, OrdR n19 n20 n21 l n22 n23 n24 n25 n26 n27 n28, Cel b5 #[vB true] 4]) (by kernel_rfl) (by kernel_rfl) (by kernel_rfl) (by kernel_rfl) (by kernel_rfl) hW 9 (by rfl) (Nat.le_of_ble_eq_true (by kernel_rfl)) (by kernel_rfl) (by rfl) ?_)); clear hA ac hW; intro w130 hW ac hA
             refine wpListIn_nil <| thenN <| wpIn_ret <| retF (.inl rfl) hA <| leaveD (H' := [Cel b55 #[vS A2 d2.length c2] 35, rowR 47 7 enRace (vS A2 d2.length c2) d2, Cel b53 #[vS A d.length c] 35, Cel b57 #[vI .i64 fi] 3, rowR 47 7 enRace (vS A d.length c) d, DefR D98, OrdR n30 n31 n32 (l.take cn) n33 n34 n35 n36 n37 n38 n39, OrdR n19 n20 n21 l n22 n23 n24 n25 n26 n27 n28, Cel b5 #[vB true] 4]) hW 2 rfl rfl ?_; clear hW; intro w131 hW
             refine leaveD (H' := [Cel b55 #[vS A2 d2.length c2] 35, rowR 47 7 enRace (vS A2 d2.length c2) d2, Cel b53 #[vS A d.length c] 35, Cel b57 #[vI .i64 fi] 3, rowR 47 7 enRace (vS A d.length c) d, OrdR n30 n31 n32 (l.take cn) n33 n34 n35 n36 n37 n38 n39, OrdR n19 n20 n21 l n22 n23 n24 n25 n26 n27 n28, Cel b5 #[vB true] 4]) hW 5 rfl rfl ?_; clear hW; intro w132 hW
             refine leave1 (v := vB true) (by rfl) (GotF.cell (b := b5) (i := 0) hA (by kernel_rfl) (by kernel_rfl) (hW.cel 7 rfl) (by kernel_rfl)) ?_
             clear hA
             exact ⟨retv (by rfl), hW.fr⟩)
           rw [h128] at hA
           first
           | (exfalso; clear hA hW; omega)
           | (exfalso; clear hA hW; exact absurd hxy_ (of_decide_eq_false h128); done)
           | (exfalso; clear hA hW; exact absurd hxy_ h128; done)
           | (
            fail))
         ·
          clear hA ac hW; intro D133 c_ pre_ Hk_ w134 ac hJ_ hA hW
          exact hJ_.elim
        ·
         clear hA ac hW; intro D135 c_ pre_ Hk_ w136 ac hJ_ hA hW
         exact hJ_.elim)))
    have h17 := of_decide_eq_false h17
    first
    | (exfalso; clear hA hW; omega)
    | (
     refine wpIn_region_lit <| st_rdF (v := vS A_l l.length c_l) hA (by kernel_rfl) (by kernel_rfl) (by kernel_rfl) (by kernel_rfl) hW.cls (rl b1 0 2) ?_; clear hA ac; intro ac hA
     refine stF hA (by kernel_rfl) (by kernel_rfl) (by kernel_rfl) (by kernel_rfl) (RunsF.of (Runs.callN (v := vT #[vP none, vI .i64 (newErr l)]) (fun _ => by kernel_rfl) hW (e_onewB A_l c_l l w7 ((hW).getG 0 rfl) (by first | assumption | omega | (simp; omega) | simp) (by assumption) (by first | exact (fun x hx => (hel x hx).2) | exact (fun x hx => (hel x (List.mem_of_mem_take hx)).2))) ?_)); clear hA ac hW; intro w137 hW hfw137 ac hA
     refine st_rdF (v := vT #[vP none, vI .i64 (newErr l)]) hA (by kernel_rfl) (by kernel_rfl) (by kernel_rfl) (by kernel_rfl) hW.cls (Rd.pure fun _ => by kernel_rfl) ?_; clear hA ac; intro ac hA
     refine st_rdF (v := vP none) hA (by kernel_rfl) (by kernel_rfl) (by kernel_rfl) (by kernel_rfl) hW.cls (Rd.pure fun _ => by kernel_rfl) ?_; clear hA ac; intro ac hA
     refine st_rdF (v := vI .i64 (newErr l)) hA (by kernel_rfl) (by kernel_rfl) (by kernel_rfl) (by kernel_rfl) hW.cls (Rd.pure fun _ => by kernel_rfl) ?_; clear hA ac; intro ac hA
     refine st_rdF (v := vP none) hA (by kernel_rfl) (by kernel_rfl) (by kernel_rfl) (by kernel_rfl) hW.cls (Rd.pure fun _ => by kernel_rfl) ?_; clear hA ac; intro ac hA
     refine st_rdF (v := vI .i64 (newErr l)) hA (by kernel_rfl) (by kernel_rfl) (by kernel_rfl) (by kernel_rfl) hW.cls (Rd.pure fun _ => by kernel_rfl) ?_; clear hA ac; intro ac hA
     refine wpListIn_nil <| thenN <| wpIn_seq ?_
     rcases Bool.eq_false_or_eq_true (decide (newOk (l.take cn))) with h138 | h138
     ·
      have h138 := of_decide_eq_true h138
      first
      | (exfalso; clear hA hW; omega)
      | (
       refine wpIn_region_lit <| st_rdF (v := vS A_l l.length c_l) hA (by kernel_rfl) (by kernel_rfl) (by kernel_rfl) (by kernel_rfl) hW.cls (rl b1 0 2) ?_; clear hA ac; intro ac hA
       refine st_rdF (v := vI .i64 (cn : Int)) hA (by kernel_rfl) (by kernel_rfl) (by kernel_rfl) (by kernel_rfl) hW.cls (rl b3 0 1) ?_; clear hA ac; intro ac hA
       refine st_rdF (v := vS A_l (l.take cn).length c_l) hA (by kernel_rfl) (by kernel_rfl) (by kernel_rfl) (by kernel_rfl) hW.cls ((Rd.slice (E := 51) (A := A_l) (n := l.length) (c := c_l) (l := 0) (h := cn) (m := c_l) (sz := 9) (by kernel_rfl) (fun _ => by kernel_rfl) (fun _ => by kernel_rfl) (fun w => bounds_hi (by omega) w)).cast (slice_eq (addr_zero _ _ _) (by first | omega | (simp; done) | (simp; omega)) (by first | omega | (simp; done) | (simp; omega)))) ?_; clear hA ac; intro ac hA
       refine stF hA (by kernel_rfl) (by kernel_rfl) (by kernel_rfl) (by kernel_rfl) (RunsF.of (Runs.call (fun _ => by kernel_rfl) (e_onew A_l c_l (l.take cn) w137 (((hW).getG 0 rfl).takeE cn) (by first | assumption | omega | (simp; omega) | simp) (by omega) (by first | exact And.right (by assumption) | exact (fun x_ hx_ => (And.right (show newOk l from by assumption)) x_ (List.mem_of_mem_take hx_))) (by first | exact (fun x hx => (hel x hx).2) | exact (fun x hx => (hel x (List.mem_of_mem_take hx)).2))) ?_))
       rintro _ w139 ⟨n140, n141, n142, n143, n144, n145, n146, n147, n148, n149, rfl, hw139_hK, hu_⟩; refine ⟨_, rfl, ?_⟩; replace hW := hW.made hu_; clear hA ac; intro ac hA
       refine st_rdF (v := vT #[pA n140 0, vI .i64 0]) hA (by kernel_rfl) (by kernel_rfl) (by kernel_rfl) (by kernel_rfl) hW.cls (Rd.pure fun _ => by kernel_rfl) ?_; clear hA ac; intro ac hA
       refine st_rdF (v := pA n140 0) hA (by kernel_rfl) (by kernel_rfl) (by kernel_rfl) (by kernel_rfl) hW.cls (Rd.pure fun _ => by kernel_rfl) ?_; clear hA ac; intro ac hA
       refine st_rdF (v := vI .i64 0) hA (by kernel_rfl) (by kernel_rfl) (by kernel_rfl) (by kernel_rfl) hW.cls (Rd.pure fun _ => by kernel_rfl) ?_; clear hA ac; intro ac hA
       refine st_rdF (v := pA n140 0) hA (by kernel_rfl) (by kernel_rfl) (by kernel_rfl) (by kernel_rfl) hW.cls (Rd.pure fun _ => by kernel_rfl) ?_; clear hA ac; intro ac hA
       refine st_rdF (v := vI .i64 0) hA (by kernel_rfl) (by kernel_rfl) (by kernel_rfl) (by kernel_rfl) hW.cls (Rd.pure fun _ => by kernel_rfl) ?_; clear hA ac; intro ac hA
       refine wpListIn_nil <| thenN <| wpIn_seq <| wpIn_seq ?_
       have hne_ := newErr_rng l
       refine wpIn_region_lit <| st_rdF (v := vI .i64 (newErr l)) hA (by kernel_rfl) (by kernel_rfl) (by kernel_rfl) (by kernel_rfl) hW.cls (Rd.pure fun _ => by kernel_rfl) ?_; clear hA ac; intro ac hA
       refine stF hA (by kernel_rfl) (by kernel_rfl) (by kernel_rfl) (by kernel_rfl) (RunsF.of (Runs.callN (v := vI .i64 (newErr l)) (fun _ => by kernel_rfl) hW (e_num (newErr l) w139) ?_)); clear hA ac hW; intro w150 hW hfw150 ac hA
       refine st_rdF (v := vB (((newErr l) : Int) != (0 : Int))) hA (by kernel_rfl) (by kernel_rfl) (by kernel_rfl) (by kernel_rfl) hW.cls (Rd.pure fun _ => by kernel_rfl) ?_; clear hA ac; intro ac hA
       refine wpListIn_nil <| thenN <| wpIn_cond_split (t := ((newErr l) : Int) != (0 : Int)) (hA.eval (by kernel_rfl)) (fun h151 => ?_) (fun h151 => ?_)
       ·
        have h151 := bne_iff_ne.1 h151
        first
        | (exfalso; clear hA hW; omega)
        | (
         refine wpIn_seq <| wpIn_region_lit <| stF hA (by kernel_rfl) (by kernel_rfl) (by kernel_rfl) (by kernel_rfl) (RunsF.of (Runs.callN (v := vB true) (fun _ => by kernel_rfl) hW (e_works w150) ?_)); clear hA ac hW; intro w152 hW hfw152 ac hA
         refine stF hA (by kernel_rfl) (by kernel_rfl) (by kernel_rfl) (by kernel_rfl) (RunsF.of (Runs.store (v := vB true) (b := b5) (j := 0) (n := 1) (cs' := #[vB true]) (H' := [OrdR n140 n141 n142 (l.take cn) n143 n144 n145 n146 n147 n148 n149, Cel b5 #[vB true] 4, Cel b3 #[vI .i64 (cn : Int)] 3, Cel b1 #[vS A_l l.length c_l] 22]) (by kernel_rfl) (by kernel_rfl) (by kernel_rfl) (by kernel_rfl) (by kernel_rfl) hW 1 (by rfl) (Nat.le_of_ble_eq_true (by kernel_rfl)) (by kernel_rfl) (by rfl) ?_)); clear hA ac hW; intro w153 hW ac hA
         refine wpListIn_nil <| thenN <| wpIn_ret <| thenR <| retF (.inl rfl) hA <| leave1 (v := vB true) (by rfl) (GotF.cell (b := b5) (i := 0) hA (by kernel_rfl) (by kernel_rfl) (hW.cel 1 rfl) (by kernel_rfl)) ?_
         clear hA
         exact ⟨retv (by rfl), hW.fr⟩)
       have h151 := of_bne_f h151
       first
       | (exfalso; clear hA hW; omega)
       | (
        fail))
     have h138 := of_decide_eq_false h138
     first
     | (exfalso; clear hA hW; omega)
     | (
      refine wpIn_region_lit <| st_rdF (v := vS A_l l.length c_l) hA (by kernel_rfl) (by kernel_rfl) (by kernel_rfl) (by kernel_rfl) hW.cls (rl b1 0 2) ?_; clear hA ac; intro ac hA
      refine st_rdF (v := vI .i64 (cn : Int)) hA (by kernel_rfl) (by kernel_rfl) (by kernel_rfl) (by kernel_rfl) hW.cls (rl b3 0 1) ?_; clear hA ac; intro ac hA
      refine st_rdF (v := vS A_l (l.take cn).length c_l) hA (by kernel_rfl) (by kernel_rfl) (by kernel_rfl) (by kernel_rfl) hW.cls ((Rd.slice (E := 51) (A := A_l) (n := l.length) (c := c_l) (l := 0) (h := cn) (m := c_l) (sz := 9) (by kernel_rfl) (fun _ => by kernel_rfl) (fun _ => by kernel_rfl) (fun w => bounds_hi (by omega) w)).cast (slice_eq (addr_zero _ _ _) (by first | omega | (simp; done) | (simp; omega)) (by first | omega | (simp; done) | (simp; omega)))) ?_; clear hA ac; intro ac hA
      refine stF hA (by kernel_rfl) (by kernel_rfl) (by kernel_rfl) (by kernel_rfl) (RunsF.of (Runs.callN (v := vT #[vP none, vI .i64 (newErr (l.take cn))]) (fun _ => by kernel_rfl) hW (e_onewB A_l c_l (l.take cn) w137 (((hW).getG 0 rfl).takeE cn) (by first | assumption | omega | (simp; omega) | simp) (by assumption) (by first | exact (fun x hx => (hel x hx).2) | exact (fun x hx => (hel x (List.mem_of_mem_take hx)).2))) ?_)); clear hA ac hW; intro w154 hW hfw154 ac hA
      refine st_rdF (v := vT #[vP none, vI .i64 (newErr (l.take cn))]) hA (by kernel_rfl) (by kernel_rfl) (by kernel_rfl) (by kernel_rfl) hW.cls (Rd.pure fun _ => by kernel_rfl) ?_; clear hA ac; intro ac hA
      refine st_rdF (v := vP none) hA (by kernel_rfl) (by kernel_rfl) (by kernel_rfl) (by kernel_rfl) hW.cls (Rd.pure fun _ => by kernel_rfl) ?_; clear hA ac; intro ac hA
      refine st_rdF (v := vI .i64 (newErr (l.take cn))) hA (by kernel_rfl) (by kernel_rfl) (by kernel_rfl) (by kernel_rfl) hW.cls (Rd.pure fun _ => by kernel_rfl) ?_; clear hA ac; intro ac hA
      refine st_rdF (v := vP none) hA (by kernel_rfl) (by kernel_rfl) (by kernel_rfl) (by kernel_rfl) hW.cls (Rd.pure fun _ => by kernel_rfl) ?_; clear hA ac; intro ac hA
      refine st_rdF (v := vI .i64 (newErr (l.take cn))) hA (by kernel_rfl) (by kernel_rfl) (by kernel_rfl) (by kernel_rfl) hW.cls (Rd.pure fun _ => by kernel_rfl) ?_; clear hA ac; intro ac hA
      refine wpListIn_nil <| thenN <| wpIn_seq <| wpIn_seq ?_
      have hne_ := newErr_rng l
      refine wpIn_region_lit <| st_rdF (v := vI .i64 (newErr l)) hA (by kernel_rfl) (by kernel_rfl) (by kernel_rfl) (by kernel_rfl) hW.cls (Rd.pure fun _ => by kernel_rfl) ?_; clear hA ac; intro ac hA
      refine stF hA (by kernel_rfl) (by kernel_rfl) (by kernel_rfl) (by kernel_rfl) (RunsF.of (Runs.callN (v := vI .i64 (newErr l)) (fun _ => by kernel_rfl) hW (e_num (newErr l) w154) ?_)); clear hA ac hW; intro w155 hW hfw155 ac hA
      refine st_rdF (v := vB (((newErr l) : Int) != (0 : Int))) hA (by kernel_rfl) (by kernel_rfl) (by kernel_rfl) (by kernel_rfl) hW.cls (Rd.pure fun _ => by kernel_rfl) ?_; clear hA ac; intro ac hA
      refine wpListIn_nil <| thenN <| wpIn_cond_split (t := ((newErr l) : Int) != (0 : Int)) (hA.eval (by kernel_rfl)) (fun h156 => ?_) (fun h156 => ?_)
      ·
       have h156 := bne_iff_ne.1 h156
       first
       | (exfalso; clear hA hW; omega)
       | (
        refine wpIn_seq <| wpIn_region_lit <| stF hA (by kernel_rfl) (by kernel_rfl) (by kernel_rfl) (by kernel_rfl) (RunsF.of (Runs.callN (v := vB true) (fun _ => by kernel_rfl) hW (e_works w155) ?_)); clear hA ac hW; intro w157 hW hfw157 ac hA
        refine stF hA (by kernel_rfl) (by kernel_rfl) (by kernel_rfl) (by kernel_rfl) (RunsF.of (Runs.store (v := vB true) (b := b5) (j := 0) (n := 1) (cs' := #[vB true]) (H' := [Cel b5 #[vB true] 4, Cel b3 #[vI .i64 (cn : Int)] 3, Cel b1 #[vS A_l l.length c_l] 22]) (by kernel_rfl) (by kernel_rfl) (by kernel_rfl) (by kernel_rfl) (by kernel_rfl) hW 0 (by rfl) (Nat.le_of_ble_eq_true (by kernel_rfl)) (by kernel_rfl) (by rfl) ?_)); clear hA ac hW; intro w158 hW ac hA
        refine wpListIn_nil <| thenN <| wpIn_ret <| thenR <| retF (.inl rfl) hA <| leave1 (v := vB true) (by rfl) (GotF.cell (b := b5) (i := 0) hA (by kernel_rfl) (by kernel_rfl) (hW.cel 0 rfl) (by kernel_rfl)) ?_
        clear hA
        exact ⟨retv (by rfl), hW.fr⟩)
      have h156 := of_bne_f h156
      first
      | (exfalso; clear hA hW; omega)
      | (
       fail))))))

theorem raceHolds_walk (A : Option Addr) (len cap : Nat) (l : List Event) (cut : Int) (w : World) (hl : l.length = len) (hc : len ≤ cap) (hm : cap ≤ maxLen) (hw : ∀ x ∈ l, wfEvent x) (hr : RowAt w A 9 enEvent l) (hy : Lit.wf (.int .i64 cut)) :
    Calls Tryz.prog 4 #[.slice A len cap, .int .i64 cut] w fun e w' => e = .returned (.bool true) ∧ Fr No w w' := by
  subst hl
  exact e_raceHolds A cap l cut w hr hc (by have : maxLen ≤ 9223372036854775807 := by decide
                                            omega) (fun x hx => wf_event (hw x hx)) (by simpa [Lit.wf, IntKind.min, IntKind.max, IntKind.bits, IntKind.signed] using hy)

end Go.Proofs.YtfkbjfbbigbacaaGreatDoor.L
