/- Contracts, walked by program over the engine's laws. -/
import Derived.Test.YtefmglgejjaipaaGreatDoorProg
import Derived.Test.YtefmglgejjaipaaGreatDoorT23
namespace Go.Proofs.YtefmglgejjaipaaGreatDoor.L
open Go.RowKit
open Go.Value renaming int → vI, slice → vS, bool → vB, pointer → vP, func → vF, agg → vA, map → vM, tuple → vT

set_option maxHeartbeats 4000000 in
set_option maxRecDepth 100000 in
theorem e_tellsC (A_l : Option Addr) (c_l : Nat) (l : List Event) (i : Int) (j : Int) (w : World) (hr_l : RowAt w A_l 9 enEvent l) (hc_l : l.length ≤ c_l) (hl : l.length ≤ 9223372036854775807) (hel : ∀ x ∈ l, (-9223372036854775808 ≤ x.kind ∧ x.kind ≤ 9223372036854775807) ∧ 0 ≤ x.addr ∧ x.addr ≤ 4294967295) (hii : -9223372036854775808 ≤ i ∧ i ≤ 9223372036854775807) (hjj : -9223372036854775808 ≤ j ∧ j ≤ 9223372036854775807) (hcs : (l.length : Int) ≤ i ∧ 0 ≤ i) : Calls Tryz.prog 6 #[vS A_l l.length c_l, vI .i64 i, vI .i64 j] w (fun e w' => e = .returned (vB true) ∧ Fr No w w') := by
 have _hu := hc_l; have _hv := hr_l; clear _hu _hv
 have _hu := hl; clear _hu
 have _hu := hel; clear _hu
 have _hu := hii; clear _hu
 have _hu := hjj; clear _hu
 have _hu := hcs; clear _hu
 refine enter_E 103 Tryz.func6 rfl rfl (by kernel_rfl) (L := [(0, vS A_l l.length c_l), (1, vI .i64 i), (2, vI .i64 j)]) (by kernel_rfl) ?_
 intro ac hA
 have hW := Ws.start w No
 have hW := hW.arg hr_l
 refine wr <| st_p (vB false) hA ?_; clear hA ac; intro ac hA
 refine wn <| wp_seq <| wr <| st_p (vS A_l l.length c_l) hA ?_; clear hA ac; intro ac hA
 refine st_s hA (Runs.callN (v := vB (fewOk l (60))) (fun _ => by kernel_rfl) hW (e_lfew A_l c_l l (60) w ((hW).getG 0 rfl) (by first | assumption | omega | (simp; omega) | simp) hl hel (by decide) (by decide)) ?_); clear hA ac hW; intro w1 hW hfw1 ac hA
 refine st_p (vB (!(fewOk l (60)))) hA ?_; clear hA ac; intro ac hA
 refine wn <| wp_cond_split (t := !(fewOk l (60))) (hA.eval (by kernel_rfl)) (fun h2 => ?_) (fun h2 => ?_)
 ·
  have h2 := not_t h2
  first
  | (exfalso; clear hA hW; omega)
  | (
   refine wr <| st_s hA (Runs.callN (v := vB true) (fun _ => by kernel_rfl) hW (e_works w1) ?_); clear hA ac hW; intro w3 hW hfw3 ac hA
   refine st_p (vB true) hA ?_; clear hA ac; intro ac hA
   refine wn <| wp_ret <| thenR <| r1 (vB true) hA ?_
   clear hA
   exact ⟨retv (by rfl), hW.fr⟩)
 have h2 := not_f h2
 first
 | (exfalso; clear hA hW; omega)
 | (
  refine wp_skip <| thenN <| wp_seq ?_
  have hfl_ := few_len (show fewOk l 60 = true from h2)
  rcases Bool.eq_false_or_eq_true (decide (newOk l)) with h4 | h4
  ·
   have h4 := of_decide_eq_true h4
   first
   | (exfalso; clear hA hW; omega)
   | (
    have hfl_ := few_len (show fewOk l 60 = true from h2)
    have hfl_ := few_len (show fewOk l 60 = true from h2)
    refine wp_region_lit <| st_p (vS A_l l.length c_l) hA ?_; clear hA ac; intro ac hA
    refine st_s hA (Runs.call (fun _ => by kernel_rfl) (e_onew A_l c_l l w1 ((hW).getG 0 rfl) (by first | assumption | omega | (simp; omega) | simp) (by omega) (And.right (by assumption)) (fun x hx => (hel x hx).2)) ?_)
    rintro _ w5 ⟨n6, n7, n8, n9, n10, n11, n12, n13, n14, n15, rfl, hw5_hK, hu_⟩; refine ⟨_, rfl, ?_⟩; replace hW := hW.made hu_; clear hA ac; intro ac hA
    refine st_p (vT #[pA n6 0, vI .i64 0]) hA fun ac hA => st_p (pA n6 0) hA fun ac hA => st_p (vI .i64 0) hA fun ac hA => st_p (pA n6 0) hA fun ac hA => st_p (vI .i64 0) hA fun ac hA => wn <| wr <| st_p (vS A_l l.length c_l) hA ?_; clear hA ac; intro ac hA
    refine st_s hA (Runs.call (fun _ => by kernel_rfl) (e_rnew A_l c_l l w5 ((hW).getG 0 rfl) (by first | assumption | omega | (simp; omega) | simp) (by omega) (And.right (by assumption)) hel) ?_)
    rintro _ w16 ⟨g17, AoL18, coL19, AoB20, coB21, rfl, hw16_hB, hccoL19, hccoB21, hkcoB21, hfcoL19, hfcoB21, hnfcoB21, hfw16⟩; refine ⟨_, rfl, ?_⟩; have hW0 := hW; have hW := hW0.call hfw16
    have hW := hW0.addFromAt hW hfcoL19 (in_cons (in_at 0 rfl) in_nil)
    have hW := hW0.addFromAt hW hfcoB21 (in_cons (in_at 0 rfl) in_nil)
    have hW := hW0.addFromAt hW hnfcoB21 (in_cons (in_at 0 rfl) in_nil)
    clear hW0 hA ac; intro ac hA
    refine st_p (vT #[vA #[vS AoL18 l.length coL19, vS AoB20 g17.length coB21], vI .i64 0]) hA fun ac hA => st_p (vA #[vS AoL18 l.length coL19, vS AoB20 g17.length coB21]) hA fun ac hA => st_p (vI .i64 0) hA fun ac hA => st_s hA (Runs.cells (fun b => pA b 0) #[vS none 0 0, vS none 0 0] 31 (fun _ => by kernel_rfl) hW ?_); clear hA ac hW; intro b22 w23 hW hb22 hfw23 ac hA
    refine st_s hA (Runs.store (v := vA #[vS AoL18 l.length coL19, vS AoB20 g17.length coB21]) (b := b22) (j := 0) (n := 2) (cs' := #[vS AoL18 l.length coL19, vS AoB20 g17.length coB21]) (H' := [Cel b22 #[vS AoL18 l.length coL19, vS AoB20 g17.length coB21] 31, OrdR n6 n7 n8 l n9 n10 n11 n12 n13 n14 n15]) (by kernel_rfl) (by kernel_rfl) (by kernel_rfl) (by kernel_rfl) (by kernel_rfl) hW 0 (by rfl) (Nat.le_of_ble_eq_true (by kernel_rfl)) (by kernel_rfl) (by rfl) ?_); clear hA ac hW; intro w24 hW ac hA
    refine st_p (vI .i64 0) hA ?_; clear hA ac; intro ac hA
    refine wn <| wp_seq <| wp_seq ?_
    have hok := hw5_hK; have hev := hok.ev; have hlc_ := hok.clen
    have hBr_ := hw16_hB
    refine wp_region_lit <| st_p (vI .i64 0) hA ?_; clear hA ac; intro ac hA
    refine st_s hA (Runs.callN (v := vI .i64 (0)) (fun _ => by kernel_rfl) hW (e_num (0) w24) ?_); clear hA ac hW; intro w25 hW hfw25 ac hA
    refine st_p (vI .i64 0) hA fun ac hA => st_p (vB (((0) : Int) != (0 : Int))) hA fun ac hA => st_p (vB (((0) : Int) != (0 : Int))) hA fun ac hA => ?_
    rcases Bool.eq_false_or_eq_true (((0) : Int) != (0 : Int)) with h26 | h26
    ·
     rw [h26] at hA
     have h26 := bne_iff_ne.1 h26
     first
     | (exfalso; clear hA hW; omega)
     | (
      refine st_k hA fun ac hA => st_k hA fun ac hA => st_k hA fun ac hA => st_k hA fun ac hA => st_k hA fun ac hA => st_p (vB true) hA fun ac hA => wn <| wp_cond_true (hA.eval (by kernel_rfl)) <| wr <| st_p (vB false) hA ?_; clear hA ac; intro ac hA
      refine wn <| wp_ret <| thenR <| r1 (vB false) hA ?_
      clear hA
      exact ⟨retv (by rfl), hW.fr⟩)
    rw [h26] at hA
    have h26 := of_bne_f h26
    first
    | (exfalso; clear hA hW; omega)
    | (
     refine st_p (pA n6 0) hA fun ac hA => st_p (vB true) hA fun ac hA => st_p (vI .i64 0) hA fun ac hA => st_p (vB true) hA fun ac hA => st_p (vB false) hA fun ac hA => st_p (vB false) hA fun ac hA => wn <| wp_cond_false (hA.eval (by kernel_rfl)) <| wp_skip <| thenN <| wp_seq <| wr <| st_p (vI .i64 0) hA fun ac hA => st_p (vB false) hA fun ac hA => wn <| wp_cond_false (hA.eval (by kernel_rfl)) <| wp_skip <| thenN <| wr <| st_p (pA n6 0) hA fun ac hA => st_p (vI .i64 i) hA fun ac hA => st_s hA (Runs.callN (v := vT #[(evAt l (i)).v, vB (decide (0 ≤ (i) ∧ (i) < (l.length : Int)))]) (fun _ => by kernel_rfl) hW (e_oevent n6 n7 n8 l n9 n10 n11 n12 n13 n14 n15 (i) w25 ((hW).get 1 rfl) ((hW).lt _ (List.mem_of_getElem? (i := 1) rfl)) (by omega) (by assumption)) ?_); clear hA ac hW; intro w27 hW hfw27 ac hA
     refine st_p (vT #[(evAt l (i)).v, vB (decide (0 ≤ (i) ∧ (i) < (l.length : Int)))]) hA fun ac hA => st_p ((evAt l (i)).v) hA fun ac hA => st_p (vB (decide (0 ≤ (i) ∧ (i) < (l.length : Int)))) hA fun ac hA => st_s hA (Runs.cells (fun b => pA b 0) #[vI .i64 0, vI .i64 0, vI .i64 0, vI .i64 0, vI .u32 0, vI .i64 0, vI .i64 0, vI .i64 0, vI .i64 0] 50 (fun _ => by kernel_rfl) hW ?_); clear hA ac hW; intro b28 w29 hW hb28 hfw29 ac hA
     refine st_s hA (Runs.store (v := (evAt l (i)).v) (b := b28) (j := 0) (n := 9) (cs' := #[vI .i64 (evAt l (i)).g, vI .i64 (evAt l (i)).kind, vI .i64 (evAt l (i)).site.f, vI .i64 (evAt l (i)).site.pc, vI .u32 (evAt l (i)).addr, vI .i64 (evAt l (i)).child, vI .i64 (evAt l (i)).obj, vI .i64 (evAt l (i)).n, vI .i64 (evAt l (i)).trap]) (H' := [Cel b28 #[vI .i64 (evAt l (i)).g, vI .i64 (evAt l (i)).kind, vI .i64 (evAt l (i)).site.f, vI .i64 (evAt l (i)).site.pc, vI .u32 (evAt l (i)).addr, vI .i64 (evAt l (i)).child, vI .i64 (evAt l (i)).obj, vI .i64 (evAt l (i)).n, vI .i64 (evAt l (i)).trap] 50, Cel b22 #[vS AoL18 l.length coL19, vS AoB20 g17.length coB21] 31, OrdR n6 n7 n8 l n9 n10 n11 n12 n13 n14 n15]) (by kernel_rfl) (by kernel_rfl) (by kernel_rfl) (by kernel_rfl) (by kernel_rfl) hW 0 (by rfl) (Nat.le_of_ble_eq_true (by kernel_rfl)) (by kernel_rfl) (by rfl) ?_); clear hA ac hW; intro w30 hW ac hA
     refine st_p (vB (decide (0 ≤ (i) ∧ (i) < (l.length : Int)))) hA ?_; clear hA ac; intro ac hA
     refine wn <| wp_seq ?_
     rw [show (decide (0 ≤ (i) ∧ (i) < (l.length : Int))) = false from decide_eq_false (by omega)] at hA
     refine wp_cut (fun ac_ wl_ => ∃ Ar10_23 : Option Addr, ∃ Ar10_26 : Option Addr, ∃ cr10_23 : Nat, ∃ cr10_26 : Nat, Fm 103 [] [(0, vS A_l l.length c_l), (1, vI .i64 i), (6, vB true), (7, pA n6 0), (8, vI .i64 0), (9, pA b22 0), (10, vI .i64 0), (11, pA b28 0), (13, vS A_l l.length c_l), (14, vB (fewOk l (60))), (15, vB (!(fewOk l (60)))), (17, vT #[pA n6 0, vI .i64 0]), (18, vS A_l l.length c_l), (19, vT #[pA n6 0, vI .i64 0]), (20, pA n6 0), (21, vI .i64 0), (22, vT #[vA #[vS AoL18 l.length coL19, vS AoB20 g17.length coB21], vI .i64 0]), (23, vS A_l l.length c_l), (24, vT #[vA #[vS AoL18 l.length coL19, vS AoB20 g17.length coB21], vI .i64 0]), (25, vA #[vS AoL18 l.length coL19, vS AoB20 g17.length coB21]), (26, vI .i64 0), (27, vI .i64 0), (28, vI .i64 (0)), (29, vI .i64 0), (30, vB false), (31, vB false), (32, pA n6 0), (33, vB true), (34, vI .i64 0), (35, vB true), (36, vB false), (37, vB false), (38, vI .i64 0), (39, vB false), (41, vT #[(evAt l (i)).v, vB false]), (42, pA n6 0), (43, vI .i64 i), (44, vT #[(evAt l (i)).v, vB false]), (45, (evAt l (i)).v), (46, vB false)] ac_ ∧ Ws w No [rowR 51 1 enU8 (vS Ar10_26 (clkE l (i)).length cr10_26) (clkE l (i)), rowR 51 1 enU8 (vS Ar10_23 (clkE l (i)).length cr10_23) (clkE l (i)), Cel b28 #[vI .i64 (evAt l (i)).g, vI .i64 (evAt l (i)).kind, vI .i64 (evAt l (i)).site.f, vI .i64 (evAt l (i)).site.pc, vI .u32 (evAt l (i)).addr, vI .i64 (evAt l (i)).child, vI .i64 (evAt l (i)).obj, vI .i64 (evAt l (i)).n, vI .i64 (evAt l (i)).trap] 50, Cel b22 #[vS AoL18 l.length coL19, vS AoB20 g17.length coB21] 31, OrdR n6 n7 n8 l n9 n10 n11 n12 n13 n14 n15] [nestR innerBV g17, roR AoB20 1 enBV g17, roR AoL18 9 enEvent l, roR A_l 9 enEvent l] wl_) ?_ ?_
     · refine sr_region (m := 57) (C := Ws w No [Cel b28 #[vI .i64 (evAt l (i)).g, vI .i64 (evAt l (i)).kind, vI .i64 (evAt l (i)).site.f, vI .i64 (evAt l (i)).site.pc, vI .u32 (evAt l (i)).addr, vI .i64 (evAt l (i)).child, vI .i64 (evAt l (i)).obj, vI .i64 (evAt l (i)).n, vI .i64 (evAt l (i)).trap] 50, Cel b22 #[vS AoL18 l.length coL19, vS AoB20 g17.length coB21] 31, OrdR n6 n7 n8 l n9 n10 n11 n12 n13 n14 n15] [nestR innerBV g17, roR AoB20 1 enBV g17, roR AoL18 9 enEvent l, roR A_l 9 enEvent l]) (fun i => [4].contains i) (fun i => [3, 4, 45, 49, 54].contains i) (fun i => [0, 1, 2, 5, 6, 8, 9, 10, 11, 12, 15, 16, 18, 19, 20, 21, 22, 25, 28, 29, 30, 31, 32, 33, 34, 35, 36, 37, 38, 39, 40, 41, 42, 43, 44, 46, 47, 48, 50, 51, 52, 53, 55, 56].contains i) (by kernel_rfl) (by kernel_rfl) (by kernel_rfl) (by kernel_rfl) hW ?_; clear hW; intro w31 hW hfw31 hR; have hC : Ws w No [Cel b28 #[vI .i64 (evAt l (i)).g, vI .i64 (evAt l (i)).kind, vI .i64 (evAt l (i)).site.f, vI .i64 (evAt l (i)).site.pc, vI .u32 (evAt l (i)).addr, vI .i64 (evAt l (i)).child, vI .i64 (evAt l (i)).obj, vI .i64 (evAt l (i)).n, vI .i64 (evAt l (i)).trap] 50, Cel b22 #[vS AoL18 l.length coL19, vS AoB20 g17.length coB21] 31, OrdR n6 n7 n8 l n9 n10 n11 n12 n13 n14 n15] [nestR innerBV g17, roR AoB20 1 enBV g17, roR AoL18 9 enEvent l, roR A_l 9 enEvent l] w31 := hW.pick [0, 1, 2] (by decide) rfl
       refine sr_p 0 (pA n6 0) hR rfl hA fun ac hA => sr_p 1 (vI .i64 i) hR rfl hA fun ac hA => sr_p 2 (vI .i64 j) hR rfl hA fun ac hA => sr_t 4 (vA #[vS AoL18 l.length coL19, vS AoB20 g17.length coB21]) hR rfl hA hC (Rd.load (b := b22) (i := 0) (by kernel_rfl) (fun _ hw => (hw).cel 1 rfl) (by kernel_rfl)) fun ac hA => sr_p 5 (vI .i64 i) hR rfl hA fun ac hA => sr_p 6 (vI .i64 j) hR rfl hA fun ac hA => sr_one (i := 3) (by kernel_rfl) (sr_d rfl hA (Runs.callN (v := vB (befE l (i) (j))) (fun _ => by kernel_rfl) hW (e_obefore n6 n7 n8 l n9 n10 n11 n12 n13 n14 n15 (i) (j) w31 ((hW).get 2 rfl) ((hW).lt _ (List.mem_of_getElem? (i := 2) rfl)) hok (by assumption) (by assumption)) ?_)); clear hA ac hW; intro w32 hW hfw32 ac hA
       refine ⟨⟨fun _ => (hW.pick [0, 1, 2] (by decide) rfl).pickG [0, 1, 2, 3] rfl, fun h => absurd h (by decide)⟩, ?_⟩; have hC : Ws w No [Cel b28 #[vI .i64 (evAt l (i)).g, vI .i64 (evAt l (i)).kind, vI .i64 (evAt l (i)).site.f, vI .i64 (evAt l (i)).site.pc, vI .u32 (evAt l (i)).addr, vI .i64 (evAt l (i)).child, vI .i64 (evAt l (i)).obj, vI .i64 (evAt l (i)).n, vI .i64 (evAt l (i)).trap] 50, Cel b22 #[vS AoL18 l.length coL19, vS AoB20 g17.length coB21] 31, OrdR n6 n7 n8 l n9 n10 n11 n12 n13 n14 n15] [nestR innerBV g17, roR AoB20 1 enBV g17, roR AoL18 9 enEvent l, roR A_l 9 enEvent l] w32 := (hW.pick [0, 1, 2] (by decide) rfl).pickG [0, 1, 2, 3] rfl
       refine sr_one (i := 7) (by kernel_rfl) (sr_d rfl hA (Runs.callN (v := vB (befE l (i) (j))) (fun _ => by kernel_rfl) hW (e_rbefore AoL18 coL19 l AoB20 coB21 g17 (i) (j) w32 ((hW).getG 2 rfl) (by first | assumption | omega | (simp; omega) | simp) ((hW).getG 1 rfl) (by first | assumption | omega | (simp; omega) | simp) ((hW).getG 0 rfl) hkcoB21 (by omega) hev hBr_ (by assumption) (by assumption)) ?_)); clear hA ac hW; intro w33 hW hfw33 ac hA
       refine qn <| sr_p 8 (vB ((befE l (i) (j)) == (befE l (i) (j)))) hR rfl hA fun ac hA => sr_p 9 (vB ((befE l (i) (j)) == (befE l (i) (j)))) hR rfl hA fun ac hA => ?_
       rw [show ((befE l (i) (j)) == (befE l (i) (j))) = true from beq_self_eq_true _] at hA
       refine sr_p 10 (pA n6 0) hR rfl hA fun ac hA => sr_p 11 (vI .i64 i) hR rfl hA fun ac hA => sr_p 12 (vI .i64 j) hR rfl hA fun ac hA => sr_p 15 (vI .i64 i) hR rfl hA fun ac hA => sr_p 16 (vI .i64 j) hR rfl hA fun ac hA => sr_two (i := 13) (j := 14) (by kernel_rfl) ?_ ?_
       ·
        refine (sr_d rfl hA (Runs.callN (v := vB (apartE l (i) (j))) (fun _ => by kernel_rfl) hW (e_oapart n6 n7 n8 l n9 n10 n11 n12 n13 n14 n15 (i) (j) w33 ((hW).get 2 rfl) ((hW).lt _ (List.mem_of_getElem? (i := 2) rfl)) hok (by assumption) (by assumption)) ?_)); clear hA ac hW; intro w34 hW hfw34 ac hA
        refine qn <| sr_one (i := 14) (by kernel_rfl) (sr_d rfl hA (Runs.ofRd (v := vA #[vS AoL18 l.length coL19, vS AoB20 g17.length coB21]) (C' := Ws w No [Cel b28 #[vI .i64 (evAt l (i)).g, vI .i64 (evAt l (i)).kind, vI .i64 (evAt l (i)).site.f, vI .i64 (evAt l (i)).site.pc, vI .u32 (evAt l (i)).addr, vI .i64 (evAt l (i)).child, vI .i64 (evAt l (i)).obj, vI .i64 (evAt l (i)).n, vI .i64 (evAt l (i)).trap] 50, Cel b22 #[vS AoL18 l.length coL19, vS AoB20 g17.length coB21] 31, OrdR n6 n7 n8 l n9 n10 n11 n12 n13 n14 n15] [nestR innerBV g17, roR AoB20 1 enBV g17, roR AoL18 9 enEvent l, roR A_l 9 enEvent l]) hW (Rd.load (b := b22) (i := 0) (by kernel_rfl) (fun _ hw => (hw).cel 1 rfl) (by kernel_rfl)) ?_)); clear hA ac; intro  ac hA
        refine qn <| sr_one (i := 17) (by kernel_rfl) (sr_d rfl hA (Runs.callN (v := vB (apartE l (i) (j))) (fun _ => by kernel_rfl) hW (e_rapart AoL18 coL19 l AoB20 coB21 g17 (i) (j) w34 ((hW).getG 2 rfl) (by first | assumption | omega | (simp; omega) | simp) ((hW).getG 1 rfl) (by first | assumption | omega | (simp; omega) | simp) ((hW).getG 0 rfl) hkcoB21 (by omega) hev hBr_ (by assumption) (by assumption)) ?_)); clear hA ac hW; intro w35 hW hfw35 ac hA
        refine qn <| sr_p 18 (vB ((apartE l (i) (j)) == (apartE l (i) (j)))) hR rfl hA fun ac hA => sr_p 19 (vB ((apartE l (i) (j)) == (apartE l (i) (j)))) hR rfl hA fun ac hA => sr_p 20 (vB ((apartE l (i) (j)) == (apartE l (i) (j)))) hR rfl hA fun ac hA => ?_
        rw [show ((apartE l (i) (j)) == (apartE l (i) (j))) = true from beq_self_eq_true _] at hA
        refine sr_p 21 (pA n6 0) hR rfl hA fun ac hA => sr_p 22 (vI .i64 i) hR rfl hA fun ac hA => sr_p 25 (vI .i64 i) hR rfl hA fun ac hA => sr_two (i := 23) (j := 24) (by kernel_rfl) ?_ ?_
        ·
         refine (sr_d rfl hA (Runs.callRow (E := 51) (sz := 1) (en := enU8) (l := (clkE l (i))) (fun _ => by kernel_rfl) hW (e_oclock n6 n7 n8 l n9 n10 n11 n12 n13 n14 n15 (i) w35 ((hW).get 2 rfl) ((hW).lt _ (List.mem_of_getElem? (i := 2) rfl)) hok (by assumption)) ?_)); clear hA ac hW; intro Ar10_23 cr10_23 w36 hW hccr10_23 hfw36 ac hA
         refine qn <| sr_one (i := 24) (by kernel_rfl) (sr_d rfl hA (Runs.ofRd (v := vA #[vS AoL18 l.length coL19, vS AoB20 g17.length coB21]) (C' := Ws w No [rowR 51 1 enU8 (vS Ar10_23 (clkE l (i)).length cr10_23) (clkE l (i)), Cel b28 #[vI .i64 (evAt l (i)).g, vI .i64 (evAt l (i)).kind, vI .i64 (evAt l (i)).site.f, vI .i64 (evAt l (i)).site.pc, vI .u32 (evAt l (i)).addr, vI .i64 (evAt l (i)).child, vI .i64 (evAt l (i)).obj, vI .i64 (evAt l (i)).n, vI .i64 (evAt l (i)).trap] 50, Cel b22 #[vS AoL18 l.length coL19, vS AoB20 g17.length coB21] 31, OrdR n6 n7 n8 l n9 n10 n11 n12 n13 n14 n15] [nestR innerBV g17, roR AoB20 1 enBV g17, roR AoL18 9 enEvent l, roR A_l 9 enEvent l]) hW (Rd.load (b := b22) (i := 0) (by kernel_rfl) (fun _ hw => (hw).cel 2 rfl) (by kernel_rfl)) ?_)); clear hA ac; intro  ac hA
         refine qn <| sr_one (i := 26) (by kernel_rfl) (sr_d rfl hA (Runs.callRow (E := 51) (sz := 1) (en := enU8) (l := (clkE l (i))) (fun _ => by kernel_rfl) hW (e_rclock AoL18 coL19 l AoB20 coB21 g17 (i) w36 ((hW).getG 2 rfl) (by first | assumption | omega | (simp; omega) | simp) ((hW).getG 1 rfl) (by first | assumption | omega | (simp; omega) | simp) ((hW).getG 0 rfl) hkcoB21 (by omega) hev hBr_ (by assumption)) ?_)); clear hA ac hW; intro Ar10_26 cr10_26 w37 hW hccr10_26 hfw37 ac hA
         refine qn <| sr_one (i := 27) (by kernel_rfl) (sr_d rfl hA (Runs.callN (v := vB (decide (clkE l (i) = clkE l (i)))) (fun _ => by kernel_rfl) hW (e_r4equal Ar10_23 cr10_23 (clkE l (i)) Ar10_26 cr10_26 (clkE l (i)) w37 (rowR_at ((hW).get 1 rfl) elt_U8.len) (own_cap ((hW).get 1 rfl)) (rowR_at ((hW).get 0 rfl) elt_U8.len) (own_cap ((hW).get 0 rfl)) (Nat.le_trans (clkE_len hok _).1 (by omega)) (Nat.le_trans (clkE_len hok _).1 (by omega))) ?_)); clear hA ac hW; intro w38 hW hfw38 ac hA
         refine qn <| sr_p 28 (vB (decide (clkE l (i) = clkE l (i)))) hR rfl hA fun ac hA => sr_p 29 (vB (decide (clkE l (i) = clkE l (i)))) hR rfl hA fun ac hA => ?_
         rw [show (decide (clkE l (i) = clkE l (i))) = true from decide_eq_true rfl] at hA
         refine sr_p 30 (vB false) hR rfl hA fun ac hA => sr_p 31 (vI .i64 i) hR rfl hA fun ac hA => sr_p 32 (vB (decide ((i : Int) ≥ (0 : Int)))) hR rfl hA fun ac hA => sr_p 33 (vB (decide ((i : Int) ≥ (0 : Int)))) hR rfl hA fun ac hA => ?_
         rw [show (decide ((i : Int) ≥ (0 : Int))) = true from decide_eq_true (by omega)] at hA
         refine sr_p 34 (vI .i64 i) hR rfl hA fun ac hA => sr_p 35 (vS A_l l.length c_l) hR rfl hA fun ac hA => sr_p 36 (vI .i64 (l.length : Int)) hR rfl hA fun ac hA => sr_p 37 (vB (decide ((i : Int) < (l.length : Int)))) hR rfl hA fun ac hA => sr_p 38 (vB (decide ((i : Int) < (l.length : Int)))) hR rfl hA fun ac hA => sr_p 39 (vB (false == (decide ((i : Int) < (l.length : Int))))) hR rfl hA fun ac hA => sr_p 40 (vB (false == (decide ((i : Int) < (l.length : Int))))) hR rfl hA fun ac hA => sr_p 41 (vB (false == (decide ((i : Int) < (l.length : Int))))) hR rfl hA fun ac hA => ?_
         rw [show (false == (decide ((i : Int) < (l.length : Int)))) = true from by rw [decide_eq_false (show ¬ (i : Int) < (l.length : Int) from by omega)]; rfl] at hA
         refine sr_p 42 (vB false) hR rfl hA fun ac hA => sr_p 43 (vB true) hR rfl hA fun ac hA => sr_p 44 (vB true) hR rfl hA fun ac hA => sr_s 46 hR rfl hA fun ac hA => sr_s 47 hR rfl hA fun ac hA => sr_s 48 hR rfl hA fun ac hA => sr_two (i := 45) (j := 49) (by kernel_rfl) ?_ ?_
         ·
          refine (sr_z rfl hA ?_); clear hA ac; intro ac hA
          refine ⟨⟨fun _ => (hW.pick [2, 3, 4] (by decide) rfl).pickG [0, 1, 2, 3] rfl, fun h => absurd h (by decide)⟩, ?_⟩; have hC : Ws w No [Cel b28 #[vI .i64 (evAt l (i)).g, vI .i64 (evAt l (i)).kind, vI .i64 (evAt l (i)).site.f, vI .i64 (evAt l (i)).site.pc, vI .u32 (evAt l (i)).addr, vI .i64 (evAt l (i)).child, vI .i64 (evAt l (i)).obj, vI .i64 (evAt l (i)).n, vI .i64 (evAt l (i)).trap] 50, Cel b22 #[vS AoL18 l.length coL19, vS AoB20 g17.length coB21] 31, OrdR n6 n7 n8 l n9 n10 n11 n12 n13 n14 n15] [nestR innerBV g17, roR AoB20 1 enBV g17, roR AoL18 9 enEvent l, roR A_l 9 enEvent l] w38 := (hW.pick [2, 3, 4] (by decide) rfl).pickG [0, 1, 2, 3] rfl
          refine sr_one (i := 49) (by kernel_rfl) (sr_z rfl hA ?_); clear hA ac; intro ac hA
          refine ⟨⟨fun _ => (hW.pick [2, 3, 4] (by decide) rfl).pickG [0, 1, 2, 3] rfl, fun h => absurd h (by decide)⟩, ?_⟩; have hC : Ws w No [Cel b28 #[vI .i64 (evAt l (i)).g, vI .i64 (evAt l (i)).kind, vI .i64 (evAt l (i)).site.f, vI .i64 (evAt l (i)).site.pc, vI .u32 (evAt l (i)).addr, vI .i64 (evAt l (i)).child, vI .i64 (evAt l (i)).obj, vI .i64 (evAt l (i)).n, vI .i64 (evAt l (i)).trap] 50, Cel b22 #[vS AoL18 l.length coL19, vS AoB20 g17.length coB21] 31, OrdR n6 n7 n8 l n9 n10 n11 n12 n13 n14 n15] [nestR innerBV g17, roR AoB20 1 enBV g17, roR AoL18 9 enEvent l, roR A_l 9 enEvent l] w38 := (hW.pick [2, 3, 4] (by decide) rfl).pickG [0, 1, 2, 3] rfl
          refine sr_s 50 hR rfl hA fun ac hA => sr_p 51 (vB true) hR rfl hA fun ac hA => sr_p 52 (vB true) hR rfl hA fun ac hA => sr_p 53 (vB true) hR rfl hA fun ac hA => sr_one (i := 54) (by kernel_rfl) (sr_d rfl hA (Runs.callN (v := vB true) (fun _ => by kernel_rfl) hW (e_works w38) ?_)); clear hA ac hW; intro w39 hW hfw39 ac hA
          refine ⟨⟨fun _ => (hW.pick [2, 3, 4] (by decide) rfl).pickG [0, 1, 2, 3] rfl, fun h => absurd h (by decide)⟩, ?_⟩; have hC : Ws w No [Cel b28 #[vI .i64 (evAt l (i)).g, vI .i64 (evAt l (i)).kind, vI .i64 (evAt l (i)).site.f, vI .i64 (evAt l (i)).site.pc, vI .u32 (evAt l (i)).addr, vI .i64 (evAt l (i)).child, vI .i64 (evAt l (i)).obj, vI .i64 (evAt l (i)).n, vI .i64 (evAt l (i)).trap] 50, Cel b22 #[vS AoL18 l.length coL19, vS AoB20 g17.length coB21] 31, OrdR n6 n7 n8 l n9 n10 n11 n12 n13 n14 n15] [nestR innerBV g17, roR AoB20 1 enBV g17, roR AoL18 9 enEvent l, roR A_l 9 enEvent l] w39 := (hW.pick [2, 3, 4] (by decide) rfl).pickG [0, 1, 2, 3] rfl
          refine sr_p 55 (vB true) hR rfl hA fun ac hA => sr_p 56 (vB true) hR rfl hA fun ac hA => sr_done (by kernel_rfl) ?_ _
          exact ⟨Ar10_23, Ar10_26, cr10_23, cr10_26, hA.sub (by and_intros <;> first | kernel_rfl | trivial), (hW.pick [0, 1, 2, 3, 4] (by decide) rfl).pickG [0, 1, 2, 3] rfl⟩
         ·
          refine (sr_z rfl hA ?_); clear hA ac; intro ac hA
          refine ⟨⟨fun _ => (hW.pick [2, 3, 4] (by decide) rfl).pickG [0, 1, 2, 3] rfl, fun h => absurd h (by decide)⟩, ?_⟩; have hC : Ws w No [Cel b28 #[vI .i64 (evAt l (i)).g, vI .i64 (evAt l (i)).kind, vI .i64 (evAt l (i)).site.f, vI .i64 (evAt l (i)).site.pc, vI .u32 (evAt l (i)).addr, vI .i64 (evAt l (i)).child, vI .i64 (evAt l (i)).obj, vI .i64 (evAt l (i)).n, vI .i64 (evAt l (i)).trap] 50, Cel b22 #[vS AoL18 l.length coL19, vS AoB20 g17.length coB21] 31, OrdR n6 n7 n8 l n9 n10 n11 n12 n13 n14 n15] [nestR innerBV g17, roR AoB20 1 enBV g17, roR AoL18 9 enEvent l, roR A_l 9 enEvent l] w38 := (hW.pick [2, 3, 4] (by decide) rfl).pickG [0, 1, 2, 3] rfl
          refine sr_one (i := 45) (by kernel_rfl) (sr_z rfl hA ?_); clear hA ac; intro ac hA
          refine ⟨⟨fun _ => (hW.pick [2, 3, 4] (by decide) rfl).pickG [0, 1, 2, 3] rfl, fun h => absurd h (by decide)⟩, ?_⟩; have hC : Ws w No [Cel b28 #[vI .i64 (evAt l (i)).g, vI .i64 (evAt l (i)).kind, vI .i64 (evAt l (i)).site.f, vI .i64 (evAt l (i)).site.pc, vI .u32 (evAt l (i)).addr, vI .i64 (evAt l (i)).child, vI .i64 (evAt l (i)).obj, vI .i64 (evAt l (i)).n, vI .i64 (evAt l (i)).trap] 50, Cel b22 #[vS AoL18 l.length coL19, vS AoB20 g17.length coB21] 31, OrdR n6 n7 n8 l n9 n10 n11 n12 n13 n14 n15] [nestR innerBV g17, roR AoB20 1 enBV g17, roR AoL18 9 enEvent l, roR A_l 9 enEvent l] w38 := (hW.pick [2, 3, 4] (by decide) rfl).pickG [0, 1, 2, 3] rfl
          refine sr_s 50 hR rfl hA fun ac hA => sr_p 51 (vB true) hR rfl hA fun ac hA => sr_p 52 (vB true) hR rfl hA fun ac hA => sr_p 53 (vB true) hR rfl hA fun ac hA => sr_one (i := 54) (by kernel_rfl) (sr_d rfl hA (Runs.callN (v := vB true) (fun _ => by kernel_rfl) hW (e_works w38) ?_)); clear hA ac hW; intro w40 hW hfw40 ac hA
          refine ⟨⟨fun _ => (hW.pick [2, 3, 4] (by decide) rfl).pickG [0, 1, 2, 3] rfl, fun h => absurd h (by decide)⟩, ?_⟩; have hC : Ws w No [Cel b28 #[vI .i64 (evAt l (i)).g, vI .i64 (evAt l (i)).kind, vI .i64 (evAt l (i)).site.f, vI .i64 (evAt l (i)).site.pc, vI .u32 (evAt l (i)).addr, vI .i64 (evAt l (i)).child, vI .i64 (evAt l (i)).obj, vI .i64 (evAt l (i)).n, vI .i64 (evAt l (i)).trap] 50, Cel b22 #[vS AoL18 l.length coL19, vS AoB20 g17.length coB21] 31, OrdR n6 n7 n8 l n9 n10 n11 n12 n13 n14 n15] [nestR innerBV g17, roR AoB20 1 enBV g17, roR AoL18 9 enEvent l, roR A_l 9 enEvent l] w40 := (hW.pick [2, 3, 4] (by decide) rfl).pickG [0, 1, 2, 3] rfl
          refine sr_p 55 (vB true) hR rfl hA fun ac hA => sr_p 56 (vB true) hR rfl hA fun ac hA => sr_done (by kernel_rfl) ?_ _
          exact ⟨Ar10_23, Ar10_26, cr10_23, cr10_26, hA.sub (by and_intros <;> first | kernel_rfl | trivial), (hW.pick [0, 1, 2, 3, 4] (by decide) rfl).pickG [0, 1, 2, 3] rfl⟩
        ·
         refine (sr_d rfl hA (Runs.ofRd (v := vA #[vS AoL18 l.length coL19, vS AoB20 g17.length coB21]) (C' := Ws w No [Cel b28 #[vI .i64 (evAt l (i)).g, vI .i64 (evAt l (i)).kind, vI .i64 (evAt l (i)).site.f, vI .i64 (evAt l (i)).site.pc, vI .u32 (evAt l (i)).addr, vI .i64 (evAt l (i)).child, vI .i64 (evAt l (i)).obj, vI .i64 (evAt l (i)).n, vI .i64 (evAt l (i)).trap] 50, Cel b22 #[vS AoL18 l.length coL19, vS AoB20 g17.length coB21] 31, OrdR n6 n7 n8 l n9 n10 n11 n12 n13 n14 n15] [nestR innerBV g17, roR AoB20 1 enBV g17, roR AoL18 9 enEvent l, roR A_l 9 enEvent l]) hW (Rd.load (b := b22) (i := 0) (by kernel_rfl) (fun _ hw => (hw).cel 1 rfl) (by kernel_rfl)) ?_)); clear hA ac; intro  ac hA
         refine qn <| sr_one (i := 23) (by kernel_rfl) (sr_d rfl hA (Runs.callRow (E := 51) (sz := 1) (en := enU8) (l := (clkE l (i))) (fun _ => by kernel_rfl) hW (e_oclock n6 n7 n8 l n9 n10 n11 n12 n13 n14 n15 (i) w35 ((hW).get 2 rfl) ((hW).lt _ (List.mem_of_getElem? (i := 2) rfl)) hok (by assumption)) ?_)); clear hA ac hW; intro Ar10_23 cr10_23 w41 hW hccr10_23 hfw41 ac hA
         refine qn <| sr_one (i := 26) (by kernel_rfl) (sr_d rfl hA (Runs.callRow (E := 51) (sz := 1) (en := enU8) (l := (clkE l (i))) (fun _ => by kernel_rfl) hW (e_rclock AoL18 coL19 l AoB20 coB21 g17 (i) w41 ((hW).getG 2 rfl) (by first | assumption | omega | (simp; omega) | simp) ((hW).getG 1 rfl) (by first | assumption | omega | (simp; omega) | simp) ((hW).getG 0 rfl) hkcoB21 (by omega) hev hBr_ (by assumption)) ?_)); clear hA ac hW; intro Ar10_26 cr10_26 w42 hW hccr10_26 hfw42 ac hA
         refine qn <| sr_one (i := 27) (by kernel_rfl) (sr_d rfl hA (Runs.callN (v := vB (decide (clkE l (i) = clkE l (i)))) (fun _ => by kernel_rfl) hW (e_r4equal Ar10_23 cr10_23 (clkE l (i)) Ar10_26 cr10_26 (clkE l (i)) w42 (rowR_at ((hW).get 1 rfl) elt_U8.len) (own_cap ((hW).get 1 rfl)) (rowR_at ((hW).get 0 rfl) elt_U8.len) (own_cap ((hW).get 0 rfl)) (Nat.le_trans (clkE_len hok _).1 (by omega)) (Nat.le_trans (clkE_len hok _).1 (by omega))) ?_)); clear hA ac hW; intro w43 hW hfw43 ac hA
         refine qn <| sr_p 28 (vB (decide (clkE l (i) = clkE l (i)))) hR rfl hA fun ac hA => sr_p 29 (vB (decide (clkE l (i) = clkE l (i)))) hR rfl hA fun ac hA => ?_
         rw [show (decide (clkE l (i) = clkE l (i))) = true from decide_eq_true rfl] at hA
         refine sr_p 30 (vB false) hR rfl hA fun ac hA => sr_p 31 (vI .i64 i) hR rfl hA fun ac hA => sr_p 32 (vB (decide ((i : Int) ≥ (0 : Int)))) hR rfl hA fun ac hA => sr_p 33 (vB (decide ((i : Int) ≥ (0 : Int)))) hR rfl hA fun ac hA => ?_
         rw [show (decide ((i : Int) ≥ (0 : Int))) = true from decide_eq_true (by omega)] at hA
         refine sr_p 34 (vI .i64 i) hR rfl hA fun ac hA => sr_p 35 (vS A_l l.length c_l) hR rfl hA fun ac hA => sr_p 36 (vI .i64 (l.length : Int)) hR rfl hA fun ac hA => sr_p 37 (vB (decide ((i : Int) < (l.length : Int)))) hR rfl hA fun ac hA => sr_p 38 (vB (decide ((i : Int) < (l.length : Int)))) hR rfl hA fun ac hA => sr_p 39 (vB (false == (decide ((i : Int) < (l.length : Int))))) hR rfl hA fun ac hA => sr_p 40 (vB (false == (decide ((i : Int) < (l.length : Int))))) hR rfl hA fun ac hA => sr_p 41 (vB (false == (decide ((i : Int) < (l.length : Int))))) hR rfl hA fun ac hA => ?_
         rw [show (false == (decide ((i : Int) < (l.length : Int)))) = true from by rw [decide_eq_false (show ¬ (i : Int) < (l.length : Int) from by omega)]; rfl] at hA
         refine sr_p 42 (vB false) hR rfl hA fun ac hA => sr_p 43 (vB true) hR rfl hA fun ac hA => sr_p 44 (vB true) hR rfl hA fun ac hA => sr_s 46 hR rfl hA fun ac hA => sr_s 47 hR rfl hA fun ac hA => sr_s 48 hR rfl hA fun ac hA => sr_two (i := 45) (j := 49) (by kernel_rfl) ?_ ?_
         ·
          refine (sr_z rfl hA ?_); clear hA ac; intro ac hA
          refine ⟨⟨fun _ => (hW.pick [2, 3, 4] (by decide) rfl).pickG [0, 1, 2, 3] rfl, fun h => absurd h (by decide)⟩, ?_⟩; have hC : Ws w No [Cel b28 #[vI .i64 (evAt l (i)).g, vI .i64 (evAt l (i)).kind, vI .i64 (evAt l (i)).site.f, vI .i64 (evAt l (i)).site.pc, vI .u32 (evAt l (i)).addr, vI .i64 (evAt l (i)).child, vI .i64 (evAt l (i)).obj, vI .i64 (evAt l (i)).n, vI .i64 (evAt l (i)).trap] 50, Cel b22 #[vS AoL18 l.length coL19, vS AoB20 g17.length coB21] 31, OrdR n6 n7 n8 l n9 n10 n11 n12 n13 n14 n15] [nestR innerBV g17, roR AoB20 1 enBV g17, roR AoL18 9 enEvent l, roR A_l 9 enEvent l] w43 := (hW.pick [2, 3, 4] (by decide) rfl).pickG [0, 1, 2, 3] rfl
          refine sr_one (i := 49) (by kernel_rfl) (sr_z rfl hA ?_); clear hA ac; intro ac hA
          refine ⟨⟨fun _ => (hW.pick [2, 3, 4] (by decide) rfl).pickG [0, 1, 2, 3] rfl, fun h => absurd h (by decide)⟩, ?_⟩; have hC : Ws w No [Cel b28 #[vI .i64 (evAt l (i)).g, vI .i64 (evAt l (i)).kind, vI .i64 (evAt l (i)).site.f, vI .i64 (evAt l (i)).site.pc, vI .u32 (evAt l (i)).addr, vI .i64 (evAt l (i)).child, vI .i64 (evAt l (i)).obj, vI .i64 (evAt l (i)).n, vI .i64 (evAt l (i)).trap] 50, Cel b22 #[vS AoL18 l.length coL19, vS AoB20 g17.length coB21] 31, OrdR n6 n7 n8 l n9 n10 n11 n12 n13 n14 n15] [nestR innerBV g17, roR AoB20 1 enBV g17, roR AoL18 9 enEvent l, roR A_l 9 enEvent l] w43 := (hW.pick [2, 3, 4] (by decide) rfl).pickG [0, 1, 2, 3] rfl
          refine sr_s 50 hR rfl hA fun ac hA => sr_p 51 (vB true) hR rfl hA fun ac hA => sr_p 52 (vB true) hR rfl hA fun ac hA => sr_p 53 (vB true) hR rfl hA fun ac hA => sr_one (i := 54) (by kernel_rfl) (sr_d rfl hA (Runs.callN (v := vB true) (fun _ => by kernel_rfl) hW (e_works w43) ?_)); clear hA ac hW; intro w44 hW hfw44 ac hA
          refine ⟨⟨fun _ => (hW.pick [2, 3, 4] (by decide) rfl).pickG [0, 1, 2, 3] rfl, fun h => absurd h (by decide)⟩, ?_⟩; have hC : Ws w No [Cel b28 #[vI .i64 (evAt l (i)).g, vI .i64 (evAt l (i)).kind, vI .i64 (evAt l (i)).site.f, vI .i64 (evAt l (i)).site.pc, vI .u32 (evAt l (i)).addr, vI .i64 (evAt l (i)).child, vI .i64 (evAt l (i)).obj, vI .i64 (evAt l (i)).n, vI .i64 (evAt l (i)).trap] 50, Cel b22 #[vS AoL18 l.length coL19, vS AoB20 g17.length coB21] 31, OrdR n6 n7 n8 l n9 n10 n11 n12 n13 n14 n15] [nestR innerBV g17, roR AoB20 1 enBV g17, roR AoL18 9 enEvent l, roR A_l 9 enEvent l] w44 := (hW.pick [2, 3, 4] (by decide) rfl).pickG [0, 1, 2, 3] rfl
          refine sr_p 55 (vB true) hR rfl hA fun ac hA => sr_p 56 (vB true) hR rfl hA fun ac hA => sr_done (by kernel_rfl) ?_ _
          exact ⟨Ar10_23, Ar10_26, cr10_23, cr10_26, hA.sub (by and_intros <;> first | kernel_rfl | trivial), (hW.pick [0, 1, 2, 3, 4] (by decide) rfl).pickG [0, 1, 2, 3] rfl⟩
         ·
          refine (sr_z rfl hA ?_); clear hA ac; intro ac hA
          refine ⟨⟨fun _ => (hW.pick [2, 3, 4] (by decide) rfl).pickG [0, 1, 2, 3] rfl, fun h => absurd h (by decide)⟩, ?_⟩; have hC : Ws w No [Cel b28 #[vI .i64 (evAt l (i)).g, vI .i64 (evAt l (i)).kind, vI .i64 (evAt l (i)).site.f, vI .i64 (evAt l (i)).site.pc, vI .u32 (evAt l (i)).addr, vI .i64 (evAt l (i)).child, vI .i64 (evAt l (i)).obj, vI .i64 (evAt l (i)).n, vI .i64 (evAt l (i)).trap] 50, Cel b22 #[vS AoL18 l.length coL19, vS AoB20 g17.length coB21] 31, OrdR n6 n7 n8 l n9 n10 n11 n12 n13 n14 n15] [nestR innerBV g17, roR AoB20 1 enBV g17, roR AoL18 9 enEvent l, roR A_l 9 enEvent l] w43 := (hW.pick [2, 3, 4] (by decide) rfl).pickG [0, 1, 2, 3] rfl
          refine sr_one (i := 45) (by kernel_rfl) (sr_z rfl hA ?_); clear hA ac; intro ac hA
          refine ⟨⟨fun _ => (hW.pick [2, 3, 4] (by decide) rfl).pickG [0, 1, 2, 3] rfl, fun h => absurd h (by decide)⟩, ?_⟩; have hC : Ws w No [Cel b28 #[vI .i64 (evAt l (i)).g, vI .i64 (evAt l (i)).kind, vI .i64 (evAt l (i)).site.f, vI .i64 (evAt l (i)).site.pc, vI .u32 (evAt l (i)).addr, vI .i64 (evAt l (i)).child, vI .i64 (evAt l (i)).obj, vI .i64 (evAt l (i)).n, vI .i64 (evAt l (i)).trap] 50, Cel b22 #[vS AoL18 l.length coL19, vS AoB20 g17.length coB21] 31, OrdR n6 n7 n8 l n9 n10 n11 n12 n13 n14 n15] [nestR innerBV g17, roR AoB20 1 enBV g17, roR AoL18 9 enEvent l, roR A_l 9 enEvent l] w43 := (hW.pick [2, 3, 4] (by decide) rfl).pickG [0, 1, 2, 3] rfl
          refine sr_s 50 hR rfl hA fun ac hA => sr_p 51 (vB true) hR rfl hA fun ac hA => sr_p 52 (vB true) hR rfl hA fun ac hA => sr_p 53 (vB true) hR rfl hA fun ac hA => sr_one (i := 54) (by kernel_rfl) (sr_d rfl hA (Runs.callN (v := vB true) (fun _ => by kernel_rfl) hW (e_works w43) ?_)); clear hA ac hW; intro w45 hW hfw45 ac hA
          refine ⟨⟨fun _ => (hW.pick [2, 3, 4] (by decide) rfl).pickG [0, 1, 2, 3] rfl, fun h => absurd h (by decide)⟩, ?_⟩; have hC : Ws w No [Cel b28 #[vI .i64 (evAt l (i)).g, vI .i64 (evAt l (i)).kind, vI .i64 (evAt l (i)).site.f, vI .i64 (evAt l (i)).site.pc, vI .u32 (evAt l (i)).addr, vI .i64 (evAt l (i)).child, vI .i64 (evAt l (i)).obj, vI .i64 (evAt l (i)).n, vI .i64 (evAt l (i)).trap] 50, Cel b22 #[vS AoL18 l.length coL19, vS AoB20 g17.length coB21] 31, OrdR n6 n7 n8 l n9 n10 n11 n12 n13 n14 n15] [nestR innerBV g17, roR AoB20 1 enBV g17, roR AoL18 9 enEvent l, roR A_l 9 enEvent l] w45 := (hW.pick [2, 3, 4] (by decide) rfl).pickG [0, 1, 2, 3] rfl
          refine sr_p 55 (vB true) hR rfl hA fun ac hA => sr_p 56 (vB true) hR rfl hA fun ac hA => sr_done (by kernel_rfl) ?_ _
          exact ⟨Ar10_23, Ar10_26, cr10_23, cr10_26, hA.sub (by and_intros <;> first | kernel_rfl | trivial), (hW.pick [0, 1, 2, 3, 4] (by decide) rfl).pickG [0, 1, 2, 3] rfl⟩
       ·
        refine (sr_d rfl hA (Runs.ofRd (v := vA #[vS AoL18 l.length coL19, vS AoB20 g17.length coB21]) (C' := Ws w No [Cel b28 #[vI .i64 (evAt l (i)).g, vI .i64 (evAt l (i)).kind, vI .i64 (evAt l (i)).site.f, vI .i64 (evAt l (i)).site.pc, vI .u32 (evAt l (i)).addr, vI .i64 (evAt l (i)).child, vI .i64 (evAt l (i)).obj, vI .i64 (evAt l (i)).n, vI .i64 (evAt l (i)).trap] 50, Cel b22 #[vS AoL18 l.length coL19, vS AoB20 g17.length coB21] 31, OrdR n6 n7 n8 l n9 n10 n11 n12 n13 n14 n15] [nestR innerBV g17, roR AoB20 1 enBV g17, roR AoL18 9 enEvent l, roR A_l 9 enEvent l]) hW (Rd.load (b := b22) (i := 0) (by kernel_rfl) (fun _ hw => (hw).cel 1 rfl) (by kernel_rfl)) ?_)); clear hA ac; intro  ac hA
        refine qn <| sr_one (i := 13) (by kernel_rfl) (sr_d rfl hA (Runs.callN (v := vB (apartE l (i) (j))) (fun _ => by kernel_rfl) hW (e_oapart n6 n7 n8 l n9 n10 n11 n12 n13 n14 n15 (i) (j) w33 ((hW).get 2 rfl) ((hW).lt _ (List.mem_of_getElem? (i := 2) rfl)) hok (by assumption) (by assumption)) ?_)); clear hA ac hW; intro w46 hW hfw46 ac hA
        refine qn <| sr_one (i := 17) (by kernel_rfl) (sr_d rfl hA (Runs.callN (v := vB (apartE l (i) (j))) (fun _ => by kernel_rfl) hW (e_rapart AoL18 coL19 l AoB20 coB21 g17 (i) (j) w46 ((hW).getG 2 rfl) (by first | assumption | omega | (simp; omega) | simp) ((hW).getG 1 rfl) (by first | assumption | omega | (simp; omega) | simp) ((hW).getG 0 rfl) hkcoB21 (by omega) hev hBr_ (by assumption) (by assumption)) ?_)); clear hA ac hW; intro w47 hW hfw47 ac hA
        refine qn <| sr_p 18 (vB ((apartE l (i) (j)) == (apartE l (i) (j)))) hR rfl hA fun ac hA => sr_p 19 (vB ((apartE l (i) (j)) == (apartE l (i) (j)))) hR rfl hA fun ac hA => sr_p 20 (vB ((apartE l (i) (j)) == (apartE l (i) (j)))) hR rfl hA fun ac hA => ?_
        rw [show ((apartE l (i) (j)) == (apartE l (i) (j))) = true from beq_self_eq_true _] at hA
        refine sr_p 21 (pA n6 0) hR rfl hA fun ac hA => sr_p 22 (vI .i64 i) hR rfl hA fun ac hA => sr_p 25 (vI .i64 i) hR rfl hA fun ac hA => sr_two (i := 23) (j := 24) (by kernel_rfl) ?_ ?_
        ·
         refine (sr_d rfl hA (Runs.callRow (E := 51) (sz := 1) (en := enU8) (l := (clkE l (i))) (fun _ => by kernel_rfl) hW (e_oclock n6 n7 n8 l n9 n10 n11 n12 n13 n14 n15 (i) w47 ((hW).get 2 rfl) ((hW).lt _ (List.mem_of_getElem? (i := 2) rfl)) hok (by assumption)) ?_)); clear hA ac hW; intro Ar10_23 cr10_23 w48 hW hccr10_23 hfw48 ac hA
         refine qn <| sr_one (i := 24) (by kernel_rfl) (sr_d rfl hA (Runs.ofRd (v := vA #[vS AoL18 l.length coL19, vS AoB20 g17.length coB21]) (C' := Ws w No [rowR 51 1 enU8 (vS Ar10_23 (clkE l (i)).length cr10_23) (clkE l (i)), Cel b28 #[vI .i64 (evAt l (i)).g, vI .i64 (evAt l (i)).kind, vI .i64 (evAt l (i)).site.f, vI .i64 (evAt l (i)).site.pc, vI .u32 (evAt l (i)).addr, vI .i64 (evAt l (i)).child, vI .i64 (evAt l (i)).obj, vI .i64 (evAt l (i)).n, vI .i64 (evAt l (i)).trap] 50, Cel b22 #[vS AoL18 l.length coL19, vS AoB20 g17.length coB21] 31, OrdR n6 n7 n8 l n9 n10 n11 n12 n13 n14 n15] [nestR innerBV g17, roR AoB20 1 enBV g17, roR AoL18 9 enEvent l, roR A_l 9 enEvent l]) hW (Rd.load (b := b22) (i := 0) (by kernel_rfl) (fun _ hw => (hw).cel 2 rfl) (by kernel_rfl)) ?_)); clear hA ac; intro  ac hA
         refine qn <| sr_one (i := 26) (by kernel_rfl) (sr_d rfl hA (Runs.callRow (E := 51) (sz := 1) (en := enU8) (l := (clkE l (i))) (fun _ => by kernel_rfl) hW (e_rclock AoL18 coL19 l AoB20 coB21 g17 (i) w48 ((hW).getG 2 rfl) (by first | assumption | omega | (simp; omega) | simp) ((hW).getG 1 rfl) (by first | assumption | omega | (simp; omega) | simp) ((hW).getG 0 rfl) hkcoB21 (by omega) hev hBr_ (by assumption)) ?_)); clear hA ac hW; intro Ar10_26 cr10_26 w49 hW hccr10_26 hfw49 ac hA
         refine qn <| sr_one (i := 27) (by kernel_rfl) (sr_d rfl hA (Runs.callN (v := vB (decide (clkE l (i) = clkE l (i)))) (fun _ => by kernel_rfl) hW (e_r4equal Ar10_23 cr10_23 (clkE l (i)) Ar10_26 cr10_26 (clkE l (i)) w49 (rowR_at ((hW).get 1 rfl) elt_U8.len) (own_cap ((hW).get 1 rfl)) (rowR_at ((hW).get 0 rfl) elt_U8.len) (own_cap ((hW).get 0 rfl)) (Nat.le_trans (clkE_len hok _).1 (by omega)) (Nat.le_trans (clkE_len hok _).1 (by omega))) ?_)); clear hA ac hW; intro w50 hW hfw50 ac hA
         refine qn <| sr_p 28 (vB (decide (clkE l (i) = clkE l (i)))) hR rfl hA fun ac hA => sr_p 29 (vB (decide (clkE l (i) = clkE l (i)))) hR rfl hA fun ac hA => ?_
         rw [show (decide (clkE l (i) = clkE l (i))) = true from decide_eq_true rfl] at hA
         refine sr_p 30 (vB false) hR rfl hA fun ac hA => sr_p 31 (vI .i64 i) hR rfl hA fun ac hA => sr_p 32 (vB (decide ((i : Int) ≥ (0 : Int)))) hR rfl hA fun ac hA => sr_p 33 (vB (decide ((i : Int) ≥ (0 : Int)))) hR rfl hA fun ac hA => ?_
         rw [show (decide ((i : Int) ≥ (0 : Int))) = true from decide_eq_true (by omega)] at hA
         refine sr_p 34 (vI .i64 i) hR rfl hA fun ac hA => sr_p 35 (vS A_l l.length c_l) hR rfl hA fun ac hA => sr_p 36 (vI .i64 (l.length : Int)) hR rfl hA fun ac hA => sr_p 37 (vB (decide ((i : Int) < (l.length : Int)))) hR rfl hA fun ac hA => sr_p 38 (vB (decide ((i : Int) < (l.length : Int)))) hR rfl hA fun ac hA => sr_p 39 (vB (false == (decide ((i : Int) < (l.length : Int))))) hR rfl hA fun ac hA => sr_p 40 (vB (false == (decide ((i : Int) < (l.length : Int))))) hR rfl hA fun ac hA => sr_p 41 (vB (false == (decide ((i : Int) < (l.length : Int))))) hR rfl hA fun ac hA => ?_
         rw [show (false == (decide ((i : Int) < (l.length : Int)))) = true from by rw [decide_eq_false (show ¬ (i : Int) < (l.length : Int) from by omega)]; rfl] at hA
         refine sr_p 42 (vB false) hR rfl hA fun ac hA => sr_p 43 (vB true) hR rfl hA fun ac hA => sr_p 44 (vB true) hR rfl hA fun ac hA => sr_s 46 hR rfl hA fun ac hA => sr_s 47 hR rfl hA fun ac hA => sr_s 48 hR rfl hA fun ac hA => sr_two (i := 45) (j := 49) (by kernel_rfl) ?_ ?_
         ·
          refine (sr_z rfl hA ?_); clear hA ac; intro ac hA
          refine ⟨⟨fun _ => (hW.pick [2, 3, 4] (by decide) rfl).pickG [0, 1, 2, 3] rfl, fun h => absurd h (by decide)⟩, ?_⟩; have hC : Ws w No [Cel b28 #[vI .i64 (evAt l (i)).g, vI .i64 (evAt l (i)).kind, vI .i64 (evAt l (i)).site.f, vI .i64 (evAt l (i)).site.pc, vI .u32 (evAt l (i)).addr, vI .i64 (evAt l (i)).child, vI .i64 (evAt l (i)).obj, vI .i64 (evAt l (i)).n, vI .i64 (evAt l (i)).trap] 50, Cel b22 #[vS AoL18 l.length coL19, vS AoB20 g17.length coB21] 31, OrdR n6 n7 n8 l n9 n10 n11 n12 n13 n14 n15] [nestR innerBV g17, roR AoB20 1 enBV g17, roR AoL18 9 enEvent l, roR A_l 9 enEvent l] w50 := (hW.pick [2, 3, 4] (by decide) rfl).pickG [0, 1, 2, 3] rfl
          refine sr_one (i := 49) (by kernel_rfl) (sr_z rfl hA ?_); clear hA ac; intro ac hA
          refine ⟨⟨fun _ => (hW.pick [2, 3, 4] (by decide) rfl).pickG [0, 1, 2, 3] rfl, fun h => absurd h (by decide)⟩, ?_⟩; have hC : Ws w No [Cel b28 #[vI .i64 (evAt l (i)).g, vI .i64 (evAt l (i)).kind, vI .i64 (evAt l (i)).site.f, vI .i64 (evAt l (i)).site.pc, vI .u32 (evAt l (i)).addr, vI .i64 (evAt l (i)).child, vI .i64 (evAt l (i)).obj, vI .i64 (evAt l (i)).n, vI .i64 (evAt l (i)).trap] 50, Cel b22 #[vS AoL18 l.length coL19, vS AoB20 g17.length coB21] 31, OrdR n6 n7 n8 l n9 n10 n11 n12 n13 n14 n15] [nestR innerBV g17, roR AoB20 1 enBV g17, roR AoL18 9 enEvent l, roR A_l 9 enEvent l] w50 := (hW.pick [2, 3, 4] (by decide) rfl).pickG [0, 1, 2, 3] rfl
          refine sr_s 50 hR rfl hA fun ac hA => sr_p 51 (vB true) hR rfl hA fun ac hA => sr_p 52 (vB true) hR rfl hA fun ac hA => sr_p 53 (vB true) hR rfl hA fun ac hA => sr_one (i := 54) (by kernel_rfl) (sr_d rfl hA (Runs.callN (v := vB true) (fun _ => by kernel_rfl) hW (e_works w50) ?_)); clear hA ac hW; intro w51 hW hfw51 ac hA
          refine ⟨⟨fun _ => (hW.pick [2, 3, 4] (by decide) rfl).pickG [0, 1, 2, 3] rfl, fun h => absurd h (by decide)⟩, ?_⟩; have hC : Ws w No [Cel b28 #[vI .i64 (evAt l (i)).g, vI .i64 (evAt l (i)).kind, vI .i64 (evAt l (i)).site.f, vI .i64 (evAt l (i)).site.pc, vI .u32 (evAt l (i)).addr, vI .i64 (evAt l (i)).child, vI .i64 (evAt l (i)).obj, vI .i64 (evAt l (i)).n, vI .i64 (evAt l (i)).trap] 50, Cel b22 #[vS AoL18 l.length coL19, vS AoB20 g17.length coB21] 31, OrdR n6 n7 n8 l n9 n10 n11 n12 n13 n14 n15] [nestR innerBV g17, roR AoB20 1 enBV g17, roR AoL18 9 enEvent l, roR A_l 9 enEvent l] w51 := (hW.pick [2, 3, 4] (by decide) rfl).pickG [0, 1, 2, 3] rfl
          refine sr_p 55 (vB true) hR rfl hA fun ac hA => sr_p 56 (vB true) hR rfl hA fun ac hA => sr_done (by kernel_rfl) ?_ _
          exact ⟨Ar10_23, Ar10_26, cr10_23, cr10_26, hA.sub (by and_intros <;> first | kernel_rfl | trivial), (hW.pick [0, 1, 2, 3, 4] (by decide) rfl).pickG [0, 1, 2, 3] rfl⟩
         ·
          refine (sr_z rfl hA ?_); clear hA ac; intro ac hA
          refine ⟨⟨fun _ => (hW.pick [2, 3, 4] (by decide) rfl).pickG [0, 1, 2, 3] rfl, fun h => absurd h (by decide)⟩, ?_⟩; have hC : Ws w No [Cel b28 #[vI .i64 (evAt l (i)).g, vI .i64 (evAt l (i)).kind, vI .i64 (evAt l (i)).site.f, vI .i64 (evAt l (i)).site.pc, vI .u32 (evAt l (i)).addr, vI .i64 (evAt l (i)).child, vI .i64 (evAt l (i)).obj, vI .i64 (evAt l (i)).n, vI .i64 (evAt l (i)).trap] 50, Cel b22 #[vS AoL18 l.length coL19, vS AoB20 g17.length coB21] 31, OrdR n6 n7 n8 l n9 n10 n11 n12 n13 n14 n15] [nestR innerBV g17, roR AoB20 1 enBV g17, roR AoL18 9 enEvent l, roR A_l 9 enEvent l] w50 := (hW.pick [2, 3, 4] (by decide) rfl).pickG [0, 1, 2, 3] rfl
          refine sr_one (i := 45) (by kernel_rfl) (sr_z rfl hA ?_); clear hA ac; intro ac hA
          refine ⟨⟨fun _ => (hW.pick [2, 3, 4] (by decide) rfl).pickG [0, 1, 2, 3] rfl, fun h => absurd h (by decide)⟩, ?_⟩; have hC : Ws w No [Cel b28 #[vI .i64 (evAt l (i)).g, vI .i64 (evAt l (i)).kind, vI .i64 (evAt l (i)).site.f, vI .i64 (evAt l (i)).site.pc, vI .u32 (evAt l (i)).addr, vI .i64 (evAt l (i)).child, vI .i64 (evAt l (i)).obj, vI .i64 (evAt l (i)).n, vI .i64 (evAt l (i)).trap] 50, Cel b22 #[vS AoL18 l.length coL19, vS AoB20 g17.length coB21] 31, OrdR n6 n7 n8 l n9 n10 n11 n12 n13 n14 n15] [nestR innerBV g17, roR AoB20 1 enBV g17, roR AoL18 9 enEvent l, roR A_l 9 enEvent l] w50 := (hW.pick [2, 3, 4] (by decide) rfl).pickG [0, 1, 2, 3] rfl
          refine sr_s 50 hR rfl hA fun ac hA => sr_p 51 (vB true) hR rfl hA fun ac hA => sr_p 52 (vB true) hR rfl hA fun ac hA => sr_p 53 (vB true) hR rfl hA fun ac hA => sr_one (i := 54) (by kernel_rfl) (sr_d rfl hA (Runs.callN (v := vB true) (fun _ => by kernel_rfl) hW (e_works w50) ?_)); clear hA ac hW; intro w52 hW hfw52 ac hA
          refine ⟨⟨fun _ => (hW.pick [2, 3, 4] (by decide) rfl).pickG [0, 1, 2, 3] rfl, fun h => absurd h (by decide)⟩, ?_⟩; have hC : Ws w No [Cel b28 #[vI .i64 (evAt l (i)).g, vI .i64 (evAt l (i)).kind, vI .i64 (evAt l (i)).site.f, vI .i64 (evAt l (i)).site.pc, vI .u32 (evAt l (i)).addr, vI .i64 (evAt l (i)).child, vI .i64 (evAt l (i)).obj, vI .i64 (evAt l (i)).n, vI .i64 (evAt l (i)).trap] 50, Cel b22 #[vS AoL18 l.length coL19, vS AoB20 g17.length coB21] 31, OrdR n6 n7 n8 l n9 n10 n11 n12 n13 n14 n15] [nestR innerBV g17, roR AoB20 1 enBV g17, roR AoL18 9 enEvent l, roR A_l 9 enEvent l] w52 := (hW.pick [2, 3, 4] (by decide) rfl).pickG [0, 1, 2, 3] rfl
          refine sr_p 55 (vB true) hR rfl hA fun ac hA => sr_p 56 (vB true) hR rfl hA fun ac hA => sr_done (by kernel_rfl) ?_ _
          exact ⟨Ar10_23, Ar10_26, cr10_23, cr10_26, hA.sub (by and_intros <;> first | kernel_rfl | trivial), (hW.pick [0, 1, 2, 3, 4] (by decide) rfl).pickG [0, 1, 2, 3] rfl⟩
        ·
         refine (sr_d rfl hA (Runs.ofRd (v := vA #[vS AoL18 l.length coL19, vS AoB20 g17.length coB21]) (C' := Ws w No [Cel b28 #[vI .i64 (evAt l (i)).g, vI .i64 (evAt l (i)).kind, vI .i64 (evAt l (i)).site.f, vI .i64 (evAt l (i)).site.pc, vI .u32 (evAt l (i)).addr, vI .i64 (evAt l (i)).child, vI .i64 (evAt l (i)).obj, vI .i64 (evAt l (i)).n, vI .i64 (evAt l (i)).trap] 50, Cel b22 #[vS AoL18 l.length coL19, vS AoB20 g17.length coB21] 31, OrdR n6 n7 n8 l n9 n10 n11 n12 n13 n14 n15] [nestR innerBV g17, roR AoB20 1 enBV g17, roR AoL18 9 enEvent l, roR A_l 9 enEvent l]) hW (Rd.load (b := b22) (i := 0) (by kernel_rfl) (fun _ hw => (hw).cel 1 rfl) (by kernel_rfl)) ?_)); clear hA ac; intro  ac hA
         refine qn <| sr_one (i := 23) (by kernel_rfl) (sr_d rfl hA (Runs.callRow (E := 51) (sz := 1) (en := enU8) (l := (clkE l (i))) (fun _ => by kernel_rfl) hW (e_oclock n6 n7 n8 l n9 n10 n11 n12 n13 n14 n15 (i) w47 ((hW).get 2 rfl) ((hW).lt _ (List.mem_of_getElem? (i := 2) rfl)) hok (by assumption)) ?_)); clear hA ac hW; intro Ar10_23 cr10_23 w53 hW hccr10_23 hfw53 ac hA
         refine qn <| sr_one (i := 26) (by kernel_rfl) (sr_d rfl hA (Runs.callRow (E := 51) (sz := 1) (en := enU8) (l := (clkE l (i))) (fun _ => by kernel_rfl) hW (e_rclock AoL18 coL19 l AoB20 coB21 g17 (i) w53 ((hW).getG 2 rfl) (by first | assumption | omega | (simp; omega) | simp) ((hW).getG 1 rfl) (by first | assumption | omega | (simp; omega) | simp) ((hW).getG 0 rfl) hkcoB21 (by omega) hev hBr_ (by assumption)) ?_)); clear hA ac hW; intro Ar10_26 cr10_26 w54 hW hccr10_26 hfw54 ac hA
         refine qn <| sr_one (i := 27) (by kernel_rfl) (sr_d rfl hA (Runs.callN (v := vB (decide (clkE l (i) = clkE l (i)))) (fun _ => by kernel_rfl) hW (e_r4equal Ar10_23 cr10_23 (clkE l (i)) Ar10_26 cr10_26 (clkE l (i)) w54 (rowR_at ((hW).get 1 rfl) elt_U8.len) (own_cap ((hW).get 1 rfl)) (rowR_at ((hW).get 0 rfl) elt_U8.len) (own_cap ((hW).get 0 rfl)) (Nat.le_trans (clkE_len hok _).1 (by omega)) (Nat.le_trans (clkE_len hok _).1 (by omega))) ?_)); clear hA ac hW; intro w55 hW hfw55 ac hA
         refine qn <| sr_p 28 (vB (decide (clkE l (i) = clkE l (i)))) hR rfl hA fun ac hA => sr_p 29 (vB (decide (clkE l (i) = clkE l (i)))) hR rfl hA fun ac hA => ?_
         rw [show (decide (clkE l (i) = clkE l (i))) = true from decide_eq_true rfl] at hA
         refine sr_p 30 (vB false) hR rfl hA fun ac hA => sr_p 31 (vI .i64 i) hR rfl hA fun ac hA => sr_p 32 (vB (decide ((i : Int) ≥ (0 : Int)))) hR rfl hA fun ac hA => sr_p 33 (vB (decide ((i : Int) ≥ (0 : Int)))) hR rfl hA fun ac hA => ?_
         rw [show (decide ((i : Int) ≥ (0 : Int))) = true from decide_eq_true (by omega)] at hA
         refine sr_p 34 (vI .i64 i) hR rfl hA fun ac hA => sr_p 35 (vS A_l l.length c_l) hR rfl hA fun ac hA => sr_p 36 (vI .i64 (l.length : Int)) hR rfl hA fun ac hA => sr_p 37 (vB (decide ((i : Int) < (l.length : Int)))) hR rfl hA fun ac hA => sr_p 38 (vB (decide ((i : Int) < (l.length : Int)))) hR rfl hA fun ac hA => sr_p 39 (vB (false == (decide ((i : Int) < (l.length : Int))))) hR rfl hA fun ac hA => sr_p 40 (vB (false == (decide ((i : Int) < (l.length : Int))))) hR rfl hA fun ac hA => sr_p 41 (vB (false == (decide ((i : Int) < (l.length : Int))))) hR rfl hA fun ac hA => ?_
         rw [show (false == (decide ((i : Int) < (l.length : Int)))) = true from by rw [decide_eq_false (show ¬ (i : Int) < (l.length : Int) from by omega)]; rfl] at hA
         refine sr_p 42 (vB false) hR rfl hA fun ac hA => sr_p 43 (vB true) hR rfl hA fun ac hA => sr_p 44 (vB true) hR rfl hA fun ac hA => sr_s 46 hR rfl hA fun ac hA => sr_s 47 hR rfl hA fun ac hA => sr_s 48 hR rfl hA fun ac hA => sr_two (i := 45) (j := 49) (by kernel_rfl) ?_ ?_
         ·
          refine (sr_z rfl hA ?_); clear hA ac; intro ac hA
          refine ⟨⟨fun _ => (hW.pick [2, 3, 4] (by decide) rfl).pickG [0, 1, 2, 3] rfl, fun h => absurd h (by decide)⟩, ?_⟩; have hC : Ws w No [Cel b28 #[vI .i64 (evAt l (i)).g, vI .i64 (evAt l (i)).kind, vI .i64 (evAt l (i)).site.f, vI .i64 (evAt l (i)).site.pc, vI .u32 (evAt l (i)).addr, vI .i64 (evAt l (i)).child, vI .i64 (evAt l (i)).obj, vI .i64 (evAt l (i)).n, vI .i64 (evAt l (i)).trap] 50, Cel b22 #[vS AoL18 l.length coL19, vS AoB20 g17.length coB21] 31, OrdR n6 n7 n8 l n9 n10 n11 n12 n13 n14 n15] [nestR innerBV g17, roR AoB20 1 enBV g17, roR AoL18 9 enEvent l, roR A_l 9 enEvent l] w55 := (hW.pick [2, 3, 4] (by decide) rfl).pickG [0, 1, 2, 3] rfl
          refine sr_one (i := 49) (by kernel_rfl) (sr_z rfl hA ?_); clear hA ac; intro ac hA
          refine ⟨⟨fun _ => (hW.pick [2, 3, 4] (by decide) rfl).pickG [0, 1, 2, 3] rfl, fun h => absurd h (by decide)⟩, ?_⟩; have hC : Ws w No [Cel b28 #[vI .i64 (evAt l (i)).g, vI .i64 (evAt l (i)).kind, vI .i64 (evAt l (i)).site.f, vI .i64 (evAt l (i)).site.pc, vI .u32 (evAt l (i)).addr, vI .i64 (evAt l (i)).child, vI .i64 (evAt l (i)).obj, vI .i64 (evAt l (i)).n, vI .i64 (evAt l (i)).trap] 50, Cel b22 #[vS AoL18 l.length coL19, vS AoB20 g17.length coB21] 31, OrdR n6 n7 n8 l n9 n10 n11 n12 n13 n14 n15] [nestR innerBV g17, roR AoB20 1 enBV g17, roR AoL18 9 enEvent l, roR A_l 9 enEvent l] w55 := (hW.pick [2, 3, 4] (by decide) rfl).pickG [0, 1, 2, 3] rfl
          refine sr_s 50 hR rfl hA fun ac hA => sr_p 51 (vB true) hR rfl hA fun ac hA => sr_p 52 (vB true) hR rfl hA fun ac hA => sr_p 53 (vB true) hR rfl hA fun ac hA => sr_one (i := 54) (by kernel_rfl) (sr_d rfl hA (Runs.callN (v := vB true) (fun _ => by kernel_rfl) hW (e_works w55) ?_)); clear hA ac hW; intro w56 hW hfw56 ac hA
          refine ⟨⟨fun _ => (hW.pick [2, 3, 4] (by decide) rfl).pickG [0, 1, 2, 3] rfl, fun h => absurd h (by decide)⟩, ?_⟩; have hC : Ws w No [Cel b28 #[vI .i64 (evAt l (i)).g, vI .i64 (evAt l (i)).kind, vI .i64 (evAt l (i)).site.f, vI .i64 (evAt l (i)).site.pc, vI .u32 (evAt l (i)).addr, vI .i64 (evAt l (i)).child, vI .i64 (evAt l (i)).obj, vI .i64 (evAt l (i)).n, vI .i64 (evAt l (i)).trap] 50, Cel b22 #[vS AoL18 l.length coL19, vS AoB20 g17.length coB21] 31, OrdR n6 n7 n8 l n9 n10 n11 n12 n13 n14 n15] [nestR innerBV g17, roR AoB20 1 enBV g17, roR AoL18 9 enEvent l, roR A_l 9 enEvent l] w56 := (hW.pick [2, 3, 4] (by decide) rfl).pickG [0, 1, 2, 3] rfl
          refine sr_p 55 (vB true) hR rfl hA fun ac hA => sr_p 56 (vB true) hR rfl hA fun ac hA => sr_done (by kernel_rfl) ?_ _
          exact ⟨Ar10_23, Ar10_26, cr10_23, cr10_26, hA.sub (by and_intros <;> first | kernel_rfl | trivial), (hW.pick [0, 1, 2, 3, 4] (by decide) rfl).pickG [0, 1, 2, 3] rfl⟩
         ·
          refine (sr_z rfl hA ?_); clear hA ac; intro ac hA
          refine ⟨⟨fun _ => (hW.pick [2, 3, 4] (by decide) rfl).pickG [0, 1, 2, 3] rfl, fun h => absurd h (by decide)⟩, ?_⟩; have hC : Ws w No [Cel b28 #[vI .i64 (evAt l (i)).g, vI .i64 (evAt l (i)).kind, vI .i64 (evAt l (i)).site.f, vI .i64 (evAt l (i)).site.pc, vI .u32 (evAt l (i)).addr, vI .i64 (evAt l (i)).child, vI .i64 (evAt l (i)).obj, vI .i64 (evAt l (i)).n, vI .i64 (evAt l (i)).trap] 50, Cel b22 #[vS AoL18 l.length coL19, vS AoB20 g17.length coB21] 31, OrdR n6 n7 n8 l n9 n10 n11 n12 n13 n14 n15] [nestR innerBV g17, roR AoB20 1 enBV g17, roR AoL18 9 enEvent l, roR A_l 9 enEvent l] w55 := (hW.pick [2, 3, 4] (by decide) rfl).pickG [0, 1, 2, 3] rfl
          refine sr_one (i := 45) (by kernel_rfl) (sr_z rfl hA ?_); clear hA ac; intro ac hA
          refine ⟨⟨fun _ => (hW.pick [2, 3, 4] (by decide) rfl).pickG [0, 1, 2, 3] rfl, fun h => absurd h (by decide)⟩, ?_⟩; have hC : Ws w No [Cel b28 #[vI .i64 (evAt l (i)).g, vI .i64 (evAt l (i)).kind, vI .i64 (evAt l (i)).site.f, vI .i64 (evAt l (i)).site.pc, vI .u32 (evAt l (i)).addr, vI .i64 (evAt l (i)).child, vI .i64 (evAt l (i)).obj, vI .i64 (evAt l (i)).n, vI .i64 (evAt l (i)).trap] 50, Cel b22 #[vS AoL18 l.length coL19, vS AoB20 g17.length coB21] 31, OrdR n6 n7 n8 l n9 n10 n11 n12 n13 n14 n15] [nestR innerBV g17, roR AoB20 1 enBV g17, roR AoL18 9 enEvent l, roR A_l 9 enEvent l] w55 := (hW.pick [2, 3, 4] (by decide) rfl).pickG [0, 1, 2, 3] rfl
          refine sr_s 50 hR rfl hA fun ac hA => sr_p 51 (vB true) hR rfl hA fun ac hA => sr_p 52 (vB true) hR rfl hA fun ac hA => sr_p 53 (vB true) hR rfl hA fun ac hA => sr_one (i := 54) (by kernel_rfl) (sr_d rfl hA (Runs.callN (v := vB true) (fun _ => by kernel_rfl) hW (e_works w55) ?_)); clear hA ac hW; intro w57 hW hfw57 ac hA
          refine ⟨⟨fun _ => (hW.pick [2, 3, 4] (by decide) rfl).pickG [0, 1, 2, 3] rfl, fun h => absurd h (by decide)⟩, ?_⟩; have hC : Ws w No [Cel b28 #[vI .i64 (evAt l (i)).g, vI .i64 (evAt l (i)).kind, vI .i64 (evAt l (i)).site.f, vI .i64 (evAt l (i)).site.pc, vI .u32 (evAt l (i)).addr, vI .i64 (evAt l (i)).child, vI .i64 (evAt l (i)).obj, vI .i64 (evAt l (i)).n, vI .i64 (evAt l (i)).trap] 50, Cel b22 #[vS AoL18 l.length coL19, vS AoB20 g17.length coB21] 31, OrdR n6 n7 n8 l n9 n10 n11 n12 n13 n14 n15] [nestR innerBV g17, roR AoB20 1 enBV g17, roR AoL18 9 enEvent l, roR A_l 9 enEvent l] w57 := (hW.pick [2, 3, 4] (by decide) rfl).pickG [0, 1, 2, 3] rfl
          refine sr_p 55 (vB true) hR rfl hA fun ac hA => sr_p 56 (vB true) hR rfl hA fun ac hA => sr_done (by kernel_rfl) ?_ _
          exact ⟨Ar10_23, Ar10_26, cr10_23, cr10_26, hA.sub (by and_intros <;> first | kernel_rfl | trivial), (hW.pick [0, 1, 2, 3, 4] (by decide) rfl).pickG [0, 1, 2, 3] rfl⟩
     clear hA ac hW; rintro ac w58 ⟨Ar10_23, Ar10_26, cr10_23, cr10_26, hA, hW⟩
     refine thenN <| wp_ret <| r1 (vB true) hA ?_
     clear hA
     exact ⟨retv (by rfl), hW.fr⟩))
  have h4 := of_decide_eq_false h4
  first
  | (exfalso; clear hA hW; omega)
  | (
   have hfl_ := few_len (show fewOk l 60 = true from h2)
   have hfl_ := few_len (show fewOk l 60 = true from h2)
   refine wp_region_lit <| st_p (vS A_l l.length c_l) hA ?_; clear hA ac; intro ac hA
   refine st_s hA (Runs.callN (v := vT #[vP none, vI .i64 (newErr l)]) (fun _ => by kernel_rfl) hW (e_onewB A_l c_l l w1 ((hW).getG 0 rfl) (by first | assumption | omega | (simp; omega) | simp) (by assumption) (fun x hx => (hel x hx).2)) ?_); clear hA ac hW; intro w59 hW hfw59 ac hA
   refine st_p (vT #[vP none, vI .i64 (newErr l)]) hA fun ac hA => st_p (vP none) hA fun ac hA => st_p (vI .i64 (newErr l)) hA fun ac hA => st_p (vP none) hA fun ac hA => st_p (vI .i64 (newErr l)) hA fun ac hA => wn <| wr <| st_p (vS A_l l.length c_l) hA ?_; clear hA ac; intro ac hA
   refine st_s hA (Runs.callN (v := vT #[vA #[vS none 0 0, vS none 0 0], vI .i64 (newErr l)]) (fun _ => by kernel_rfl) hW (e_rnewB A_l c_l l w59 ((hW).getG 0 rfl) (by first | assumption | omega | (simp; omega) | simp) (by assumption) hl hel) ?_); clear hA ac hW; intro w60 hW hfw60 ac hA
   refine st_p (vT #[vA #[vS none 0 0, vS none 0 0], vI .i64 (newErr l)]) hA fun ac hA => st_p (vA #[vS none 0 0, vS none 0 0]) hA fun ac hA => st_p (vI .i64 (newErr l)) hA fun ac hA => st_s hA (Runs.cells (fun b => pA b 0) #[vS none 0 0, vS none 0 0] 31 (fun _ => by kernel_rfl) hW ?_); clear hA ac hW; intro b61 w62 hW hb61 hfw62 ac hA
   refine st_s hA (Runs.store (v := vA #[vS none 0 0, vS none 0 0]) (b := b61) (j := 0) (n := 2) (cs' := #[vS none 0 0, vS none 0 0]) (H' := [Cel b61 #[vS none 0 0, vS none 0 0] 31]) (by kernel_rfl) (by kernel_rfl) (by kernel_rfl) (by kernel_rfl) (by kernel_rfl) hW 0 (by rfl) (Nat.le_of_ble_eq_true (by kernel_rfl)) (by kernel_rfl) (by rfl) ?_); clear hA ac hW; intro w63 hW ac hA
   refine st_p (vI .i64 (newErr l)) hA ?_; clear hA ac; intro ac hA
   refine wn <| wp_seq <| wp_seq ?_
   have hne_ := newErr_rng l
   refine wp_region_lit <| st_p (vI .i64 (newErr l)) hA ?_; clear hA ac; intro ac hA
   refine st_s hA (Runs.callN (v := vI .i64 (newErr l)) (fun _ => by kernel_rfl) hW (e_num (newErr l) w63) ?_); clear hA ac hW; intro w64 hW hfw64 ac hA
   refine st_p (vI .i64 (newErr l)) hA fun ac hA => st_p (vB (((newErr l) : Int) != (newErr l : Int))) hA fun ac hA => st_p (vB (((newErr l) : Int) != (newErr l : Int))) hA fun ac hA => ?_
   rcases Bool.eq_false_or_eq_true (((newErr l) : Int) != (newErr l : Int)) with h65 | h65
   ·
    rw [h65] at hA
    have h65 := bne_iff_ne.1 h65
    first
    | (exfalso; clear hA hW; omega)
    | (exfalso; clear hA hW; exact h65 rfl; done)
    | (
     fail)
   rw [h65] at hA
   have h65 := of_bne_f h65
   first
   | (exfalso; clear hA hW; omega)
   | (
    refine st_p (vP none) hA fun ac hA => st_p (vB false) hA fun ac hA => st_p (vI .i64 (newErr l)) hA fun ac hA => st_p (vB ((newErr l : Int) == (0 : Int))) hA fun ac hA => st_p (vB (!(false == ((newErr l : Int) == (0 : Int))))) hA fun ac hA => st_p (vB (!(false == ((newErr l : Int) == (0 : Int))))) hA fun ac hA => wn <| wp_cond_split (t := !(false == ((newErr l : Int) == (0 : Int)))) (hA.eval (by kernel_rfl)) (fun h66 => ?_) (fun h66 => ?_)
    ·
     have h66 := bbne_t h66
     first
     | (exfalso; clear hA hW; omega)
     | (exfalso; clear hA hW; exact h66 (by rcases hne_ with q_ | q_ <;> rw [q_] <;> rfl); done)
     | (
      fail)
    have h66 := bbne_f h66
    first
    | (exfalso; clear hA hW; omega)
    | (
     refine wp_skip <| thenN <| wp_seq <| wr <| st_p (vI .i64 (newErr l)) hA fun ac hA => st_p (vB ((newErr l : Int) != (0 : Int))) hA fun ac hA => wn <| wp_cond_split (t := (newErr l : Int) != (0 : Int)) (hA.eval (by kernel_rfl)) (fun h67 => ?_) (fun h67 => ?_)
     ·
      have h67 := bne_iff_ne.1 h67
      first
      | (exfalso; clear hA hW; omega)
      | (exfalso; clear hA hW; exact h67 rfl; done)
      | (
       refine wr <| st_s hA (Runs.callN (v := vB true) (fun _ => by kernel_rfl) hW (e_works w64) ?_); clear hA ac hW; intro w68 hW hfw68 ac hA
       refine st_p (vB true) hA ?_; clear hA ac; intro ac hA
       refine wn <| wp_ret <| thenR <| r1 (vB true) hA ?_
       clear hA
       exact ⟨retv (by rfl), hW.fr⟩)
     have h67 := of_bne_f h67
     first
     | (exfalso; clear hA hW; omega)
     | (
      fail)))))

theorem orderTells_walk (A : Option Addr) (len cap : Nat) (l : List Event) (i j : Int) (w : World) (hl : l.length = len) (hc : len ≤ cap) (hm : cap ≤ maxLen) (hw : ∀ x ∈ l, wfEvent x) (hr : RowAt w A 9 enEvent l) (hy : Lit.wf (.int .i64 i)) (hz : Lit.wf (.int .i64 j)) :
    Calls Tryz.prog 6 #[.slice A len cap, .int .i64 i, .int .i64 j] w fun e w' => e = .returned (.bool true) ∧ Fr No w w' := by
  subst hl
  have h9 : l.length ≤ 9223372036854775807 := by have : maxLen ≤ 9223372036854775807 := by decide
                                                 omega
  have hi : -9223372036854775808 ≤ i ∧ i ≤ 9223372036854775807 := by simpa [Lit.wf, IntKind.min, IntKind.max, IntKind.bits, IntKind.signed] using hy
  have hj : -9223372036854775808 ≤ j ∧ j ≤ 9223372036854775807 := by simpa [Lit.wf, IntKind.min, IntKind.max, IntKind.bits, IntKind.signed] using hz
  have hwf : ∀ x ∈ l, (-9223372036854775808 ≤ x.kind ∧ x.kind ≤ 9223372036854775807) ∧ 0 ≤ x.addr ∧ x.addr ≤ 4294967295 := fun x hx => wf_event (hw x hx)
  by_cases c1 : i < 0
  · exact e_tellsA A cap l i j w hr hc h9 hwf hi hj c1
  · by_cases c2 : i < (l.length : Int)
    · exact e_tellsB A cap l i j w hr hc h9 hwf hi hj ⟨by omega, c2⟩
    · exact e_tellsC A cap l i j w hr hc h9 hwf hi hj ⟨by omega, by omega⟩

end Go.Proofs.YtefmglgejjaipaaGreatDoor.L
