/- Contracts, walked by program over the engine's laws. -/
import Derived.Test.YtjegpelofdopmaaGreatDoorProg
import Derived.Test.YtjegpelofdopmaaGreatDoorRelE24
namespace Go.Proofs.YtjegpelofdopmaaGreatDoor.L
open Go.RowKit
open Go.Value renaming int → vI, slice → vS, bool → vB, pointer → vP, func → vF, agg → vA, map → vM, tuple → vT

set_option maxRecDepth 100000 in
theorem e_is (m : Nat) (bg : Nat) (G : List (Int × SV)) (bt : Nat) (T : List (Thing × SV)) (en : Int) (ks : KSt) (nn : Nat) (A_L : Option Addr) (c_L : Nat) (L : List One4) (A_Q : Option Addr) (c_Q : Nat) (Q : List Thg4) (n2 : Nat) (lim : Int) (w : World) (ho_c : (ClkR m bg G bt T en ks nn).p w) (hl_c : ∀ x_ ∈ (ClkR m bg G bt T en ks nn).fp, x_ < w.heap.size) (hr_L : RowAt w A_L 2 enOne4 L) (hc_L : L.length ≤ c_L) (hn_L : (nestR innerOne4 L).p w) (hk_L : ∀ x_ ∈ L, capOne4 x_) (hr_Q : RowAt w A_Q 3 enThg4 Q) (hc_Q : Q.length ≤ c_Q) (hn_Q : (nestR innerThg4 Q).p w) (hk_Q : ∀ x_ ∈ Q, capThg4 x_) (hok : ClkOk en nn ks G T) (hD : DOk en n2 ks L Q) (hnn : nn ≤ 4095) (hn2 : n2 ≤ 4095) : Calls Tryz.prog 21 #[pA m 0, vA #[vI .u64 en, vS A_L L.length c_L, vS A_Q Q.length c_Q], vI .i64 lim] w (fun e w' => e = .returned (vB true) ∧ Fr No w w') := by
 have _hu := hc_L; have _hv := hr_L; clear _hu _hv
 have _hu := hk_L; have _hv := hn_L; clear _hu _hv
 have _hu := hc_Q; have _hv := hr_Q; clear _hu _hv
 have _hu := hk_Q; have _hv := hn_Q; clear _hu _hv
 have _hu := ho_c; have _hv := hl_c; clear _hu _hv
 have _hu := hok; clear _hu
 have _hu := hD; clear _hu
 have _hu := hnn; clear _hu
 have _hu := hn2; clear _hu
 have he1_ := hok.e1; have he2_ := hok.e2
 have hnl_ := hD.nL; have hnq_ := hD.nQ; have hcl_ := hD.cL; have hcq_ := hD.cQ
 have hgv_ : ∀ i, (gv ks i).length ≤ 100000 := fun i => Nat.le_trans (hD.gvb i).1.1 (by decide)
 have hof_ : ∀ i, (trimC (ofK L i)).length ≤ 100000 := fun i => by rw [hD.of]; exact hgv_ i
 have hth_ : ∀ k o, (ks.t k o).length ≤ 100000 := fun k o => Nat.le_trans (hD.tb k o).1.1 (by decide)
 have hto_ : ∀ k o, (trimC (thK Q k o)).length ≤ 100000 := fun k o => by rw [hD.t, (hD.tb _ _).2]; exact hth_ k o
 have htk_ : ∀ k o, (thK Q k o).length ≤ 100000 := fun k o => by rw [hD.t]; exact hth_ k o
 have hgc_ := hD.cG hn2; have hgc2_ : ∀ y ∈ L, ∀ g, 0 ≤ getC y.cl g ∧ getC y.cl g ≤ 18446744073709551615 := fun y hy g => by have := hgc_ y hy g; omega
 have hLc2_ : ∀ y : One4, y ∈ L → y.cl.length ≤ 100000 := fun y hy => Nat.le_trans (hcl_ y hy) (by decide)
 refine enter_F 103 Tryz.func21 rfl rfl (by kernel_rfl) (L := [(0, pA m 0), (1, vA #[vI .u64 en, vS A_L L.length c_L, vS A_Q Q.length c_Q]), (2, vI .i64 lim)]) (by kernel_rfl) ?_
 intro ac hA
 have hW := Ws.start w No
 have hW := hW.arg hr_L
 have hW := hW.addG _ hn_L (nest_ltOne4 hn_L) (by simp)
 have hW := hW.arg hr_Q
 have hW := hW.addG _ hn_Q (nest_ltThg4 hn_Q) (by simp)
 have hW := hW.addG (ClkR m bg G bt T en ks nn) ho_c hl_c (by simp)
 have hW := hW.objG (L := [Cel m #[vM (some bg), vM (some bt), vI .u64 en] 77, mapR bg (fun a : Int => vI .i64 a) SV.v G, mapR bt Thing.v SV.v T, nestR innerSV (NV [] G T)]) ho_c hl_c
 clear ho_c hl_c
 refine wpIn_seq <| wpIn_region_lit <| stF hA (by kernel_rfl) (by kernel_rfl) (by kernel_rfl) (by kernel_rfl) (RunsF.of (Runs.cells (fun b => pA b 0) #[vI .u64 en, vS A_L L.length c_L, vS A_Q Q.length c_Q] 61 (fun _ => by kernel_rfl) hW ?_)); clear hA ac hW; intro b1 w2 hW hb1 hfw2 ac hA
 refine stF hA (by kernel_rfl) (by kernel_rfl) (by kernel_rfl) (by kernel_rfl) (RunsF.of (Runs.cells (fun b => pA b 0) #[vI .i64 lim] 3 (fun _ => by kernel_rfl) hW ?_)); clear hA ac hW; intro b3 w4 hW hb3 hfw4 ac hA
 refine stF hA (by kernel_rfl) (by kernel_rfl) (by kernel_rfl) (by kernel_rfl) (RunsF.of (Runs.cells (fun b => pA b 0) #[vB false] 4 (fun _ => by kernel_rfl) hW ?_)); clear hA ac hW; intro b5 w6 hW hb5 hfw6 ac hA
 refine wpListIn_nil <| thenN <| wpIn_seq <| wpIn_seq <| wpIn_region_lit <| st_rdF (v := vI .i64 (-1)) hA (by kernel_rfl) (by kernel_rfl) (by kernel_rfl) (by kernel_rfl) hW.cls (Rd.pure fun _ => by kernel_rfl) ?_; clear hA ac; intro ac hA
 refine wpListIn_nil <| thenN <| wpIn_block <| wpIn_loop_m (fun m_ ac_ wl_ => ∃ g : Int, m_ = (8 - g).toNat + 0 ∧ (-1 ≤ g ∧ g ≤ 8) ∧ Fm 103 [] [(0, pA m 0), (4, pA b1 0), (5, pA b3 0), (6, pA b5 0), (7, vI .i64 g)] ac_ ∧ Ws w No [Cel b5 #[vB false] 4, Cel b3 #[vI .i64 lim] 3, Cel b1 #[vI .u64 en, vS A_L L.length c_L, vS A_Q Q.length c_Q] 61] [Cel m #[vM (some bg), vM (some bt), vI .u64 en] 77, mapR bg (fun a : Int => vI .i64 a) SV.v G, mapR bt Thing.v SV.v T, nestR innerSV (NV [] G T), ClkR m bg G bt T en ks nn, nestR innerThg4 Q, roR A_Q 3 enThg4 Q, nestR innerOne4 L, roR A_L 2 enOne4 L] wl_) _ ⟨-1, rfl, by omega, hA.sub (by and_intros <;> first | kernel_rfl | trivial), (hW.pick [0, 1, 2] (by decide) rfl).pickG [0, 1, 2, 3, 4, 5, 6, 7, 8] rfl⟩ ?_
 clear hA ac hW; rintro m_ ac w7 ⟨g, rfl, hg, hA, hW⟩
 refine wpIn_seq <| wpIn_seq <| wpIn_region_lit <| st_rdF (v := vI .i64 g) hA (by kernel_rfl) (by kernel_rfl) (by kernel_rfl) (by kernel_rfl) hW.cls (Rd.pure fun _ => by kernel_rfl) ?_; clear hA ac; intro ac hA
 refine st_rdF (v := vB (decide ((g : Int) < (8 : Int)))) hA (by kernel_rfl) (by kernel_rfl) (by kernel_rfl) (by kernel_rfl) hW.cls (Rd.pure fun _ => by kernel_rfl) ?_; clear hA ac; intro ac hA
 refine wpListIn_nil <| thenN <| wpIn_cond_split (t := decide ((g : Int) < (8 : Int))) (hA.eval (by kernel_rfl)) (fun h8 => ?_) (fun h8 => ?_)
 ·
  have h8 := of_decide_eq_true h8
  first
  | (exfalso; clear hA hW; omega)
  | (exfalso; clear hA hW; simp at h8; done)
  | (exfalso; clear hA hW; rw [hD.of] at h8; simp at h8; done)
  | (exfalso; clear hA hW; rw [hD.t, (hD.tb _ _).2] at h8; simp at h8; done)
  | (
   refine wpIn_skip <| thenN <| wpIn_seq <| wpIn_block <| wpIn_seq <| wpIn_cut (fun ac_ wl_ => ∃ Ar4_2 : Option Addr, ∃ Ar4_5 : Option Addr, ∃ cr4_2 : Nat, ∃ cr4_5 : Nat, Fm 103 [] [(0, pA m 0), (4, pA b1 0), (5, pA b3 0), (6, pA b5 0), (7, vI .i64 g), (14, vI .i64 g), (15, vB (decide ((g : Int) < (8 : Int)))), (34, vB (!((decide (fullK en ks (g))) == (decide (fullK (en) ks (g))))))] ac_ ∧ Ws w No [rowR 29 1 enU8 (vS Ar4_5 (trimC (ofK L (g))).length cr4_5) (trimC (ofK L (g))), rowR 29 1 enU8 (vS Ar4_2 (gv ks (g)).length cr4_2) (gv ks (g)), Cel b5 #[vB false] 4, Cel b3 #[vI .i64 lim] 3, Cel b1 #[vI .u64 en, vS A_L L.length c_L, vS A_Q Q.length c_Q] 61] [Cel m #[vM (some bg), vM (some bt), vI .u64 en] 77, mapR bg (fun a : Int => vI .i64 a) SV.v G, mapR bt Thing.v SV.v T, nestR innerSV (NV [] G T), ClkR m bg G bt T en ks nn, nestR innerThg4 Q, roR A_Q 3 enThg4 Q, nestR innerOne4 L, roR A_L 2 enOne4 L] wl_) ?_ ?_
   · refine sr_regionF (m := 17) (C := Ws w No [Cel b5 #[vB false] 4, Cel b3 #[vI .i64 lim] 3, Cel b1 #[vI .u64 en, vS A_L L.length c_L, vS A_Q Q.length c_Q] 61] [Cel m #[vM (some bg), vM (some bt), vI .u64 en] 77, mapR bg (fun a : Int => vI .i64 a) SV.v G, mapR bt Thing.v SV.v T, nestR innerSV (NV [] G T), ClkR m bg G bt T en ks nn, nestR innerThg4 Q, roR A_Q 3 enThg4 Q, nestR innerOne4 L, roR A_L 2 enOne4 L]) (fun i => [3].contains i) (fun i => [2, 3].contains i) (fun i => [0, 1, 4, 7, 8, 9, 10, 13, 15, 16].contains i) (by kernel_rfl) (by kernel_rfl) (by kernel_rfl) (by kernel_rfl) (by kernel_rfl) (fun _ _ h => h) hW ?_; clear hW; intro w9 hW hfw9 hR; have hC : Ws w No [Cel b5 #[vB false] 4, Cel b3 #[vI .i64 lim] 3, Cel b1 #[vI .u64 en, vS A_L L.length c_L, vS A_Q Q.length c_Q] 61] [Cel m #[vM (some bg), vM (some bt), vI .u64 en] 77, mapR bg (fun a : Int => vI .i64 a) SV.v G, mapR bt Thing.v SV.v T, nestR innerSV (NV [] G T), ClkR m bg G bt T en ks nn, nestR innerThg4 Q, roR A_Q 3 enThg4 Q, nestR innerOne4 L, roR A_L 2 enOne4 L] w9 := hW.pick [0, 1, 2] (by decide) rfl
     refine sr_p 0 (pA m 0) hR rfl hA fun ac hA => sr_p 1 (vI .i64 g) hR rfl hA fun ac hA => sr_t 3 (vA #[vI .u64 en, vS A_L L.length c_L, vS A_Q Q.length c_Q]) hR rfl hA hC (Rd.load (b := b1) (i := 0) (by kernel_rfl) (fun _ hw => (hw).cel 2 rfl) (by kernel_rfl)) fun ac hA => sr_p 4 (vI .i64 g) hR rfl hA fun ac hA => sr_one (i := 2) (by kernel_rfl) (sr_d rfl hA (Runs.callRow (E := 29) (sz := 1) (en := enU8) (l := (gv ks (g))) (fun _ => by kernel_rfl) hW (e_kof m bg G bt T en ks nn (g) w9 ((hW).getG 4 rfl) ((hW).glt _ (List.mem_of_getElem? (i := 4) rfl)) (by first | omega | assumption | exact ⟨by omega, by omega⟩ | exact hgv_ _ | exact hof_ _ | exact hth_ _ _ | exact hto_ _ _ | exact htk_ _ _ | exact hgc2_ _ (List.mem_of_getElem? (by assumption)) _ | exact hLc2_ _ (List.mem_of_getElem? (by assumption))) (by first | omega | assumption | exact ⟨by omega, by omega⟩ | exact hgv_ _ | exact hof_ _ | exact hth_ _ _ | exact hto_ _ _ | exact htk_ _ _ | exact hgc2_ _ (List.mem_of_getElem? (by assumption)) _ | exact hLc2_ _ (List.mem_of_getElem? (by assumption)))) ?_)); clear hA ac hW; intro Ar4_2 cr4_2 w10 hW hccr4_2 hfw10 ac hA
     refine ⟨⟨fun _ => (hW.pick [1, 2, 3] (by decide) rfl).pickG [0, 1, 2, 3, 4, 5, 6, 7, 8] rfl, fun h => absurd h (by decide)⟩, ?_⟩; have hC : Ws w No [Cel b5 #[vB false] 4, Cel b3 #[vI .i64 lim] 3, Cel b1 #[vI .u64 en, vS A_L L.length c_L, vS A_Q Q.length c_Q] 61] [Cel m #[vM (some bg), vM (some bt), vI .u64 en] 77, mapR bg (fun a : Int => vI .i64 a) SV.v G, mapR bt Thing.v SV.v T, nestR innerSV (NV [] G T), ClkR m bg G bt T en ks nn, nestR innerThg4 Q, roR A_Q 3 enThg4 Q, nestR innerOne4 L, roR A_L 2 enOne4 L] w10 := (hW.pick [1, 2, 3] (by decide) rfl).pickG [0, 1, 2, 3, 4, 5, 6, 7, 8] rfl
     refine sr_one (i := 5) (by kernel_rfl) (sr_d rfl hA (Runs.callRow (E := 29) (sz := 1) (en := enU8) (l := (trimC (ofK L (g)))) (fun _ => by kernel_rfl) hW (e_kof4 (en) A_L c_L L A_Q c_Q Q (g) w10 ((hW).getG 8 rfl) (by first | assumption | omega | (simp; omega) | simp) ((hW).getG 7 rfl) hk_L ((hW).getG 6 rfl) (by first | assumption | omega | (simp; omega) | simp) ((hW).getG 5 rfl) hk_Q (by first | omega | assumption | exact ⟨by omega, by omega⟩ | exact hgv_ _ | exact hof_ _ | exact hth_ _ _ | exact hto_ _ _ | exact htk_ _ _ | exact hgc2_ _ (List.mem_of_getElem? (by assumption)) _ | exact hLc2_ _ (List.mem_of_getElem? (by assumption))) (by first | omega | assumption | exact ⟨by omega, by omega⟩ | exact hgv_ _ | exact hof_ _ | exact hth_ _ _ | exact hto_ _ _ | exact htk_ _ _ | exact hgc2_ _ (List.mem_of_getElem? (by assumption)) _ | exact hLc2_ _ (List.mem_of_getElem? (by assumption))) (by first | omega | assumption | exact ⟨by omega, by omega⟩ | exact hgv_ _ | exact hof_ _ | exact hth_ _ _ | exact hto_ _ _ | exact htk_ _ _ | exact hgc2_ _ (List.mem_of_getElem? (by assumption)) _ | exact hLc2_ _ (List.mem_of_getElem? (by assumption))) (by first | omega | assumption | exact ⟨by omega, by omega⟩ | exact hgv_ _ | exact hof_ _ | exact hth_ _ _ | exact hto_ _ _ | exact htk_ _ _ | exact hgc2_ _ (List.mem_of_getElem? (by assumption)) _ | exact hLc2_ _ (List.mem_of_getElem? (by assumption))) (by first | omega | assumption | exact ⟨by omega, by omega⟩ | exact hgv_ _ | exact hof_ _ | exact hth_ _ _ | exact hto_ _ _ | exact htk_ _ _ | exact hgc2_ _ (List.mem_of_getElem? (by assumption)) _ | exact hLc2_ _ (List.mem_of_getElem? (by assumption)))) ?_)); clear hA ac hW; intro Ar4_5 cr4_5 w11 hW hccr4_5 hfw11 ac hA
     refine qn <| sr_one (i := 6) (by kernel_rfl) (sr_d rfl hA (Runs.callN (v := vB (decide (gv ks (g) = trimC (ofK L (g))))) (fun _ => by kernel_rfl) hW (e_r4equal Ar4_2 cr4_2 (gv ks (g)) Ar4_5 cr4_5 (trimC (ofK L (g))) w11 (rowR_at ((hW).get 1 rfl) elt_U8.len) (own_cap ((hW).get 1 rfl)) (rowR_at ((hW).get 0 rfl) elt_U8.len) (own_cap ((hW).get 0 rfl)) (by first | omega | assumption | exact ⟨by omega, by omega⟩ | exact hgv_ _ | exact hof_ _ | exact hth_ _ _ | exact hto_ _ _ | exact htk_ _ _ | exact hgc2_ _ (List.mem_of_getElem? (by assumption)) _ | exact hLc2_ _ (List.mem_of_getElem? (by assumption))) (by first | omega | assumption | exact ⟨by omega, by omega⟩ | exact hgv_ _ | exact hof_ _ | exact hth_ _ _ | exact hto_ _ _ | exact htk_ _ _ | exact hgc2_ _ (List.mem_of_getElem? (by assumption)) _ | exact hLc2_ _ (List.mem_of_getElem? (by assumption)))) ?_)); clear hA ac hW; intro w12 hW hfw12 ac hA
     refine qn <| sr_p 7 (vB (!(decide (gv ks (g) = trimC (ofK L (g)))))) hR rfl hA fun ac hA => sr_p 8 (vB (!(decide (gv ks (g) = trimC (ofK L (g)))))) hR rfl hA fun ac hA => ?_
     rw [show (!(decide (gv ks (g) = trimC (ofK L (g))))) = false from by rw [hD.of, decide_eq_true rfl]; rfl] at hA
     refine sr_p 9 (pA m 0) hR rfl hA fun ac hA => sr_p 10 (vI .i64 g) hR rfl hA fun ac hA => sr_p 13 (vI .i64 g) hR rfl hA fun ac hA => sr_two (i := 11) (j := 12) (by kernel_rfl) ?_ ?_
     ·
      refine (sr_d rfl hA (Runs.callN (v := vB (decide (fullK en ks (g)))) (fun _ => by kernel_rfl) hW (e_kfull m bg G bt T en ks nn (g) w12 ((hW).getG 4 rfl) ((hW).glt _ (List.mem_of_getElem? (i := 4) rfl)) (by first | omega | assumption | exact ⟨by omega, by omega⟩ | exact hgv_ _ | exact hof_ _ | exact hth_ _ _ | exact hto_ _ _ | exact htk_ _ _ | exact hgc2_ _ (List.mem_of_getElem? (by assumption)) _ | exact hLc2_ _ (List.mem_of_getElem? (by assumption))) (by first | omega | assumption | exact ⟨by omega, by omega⟩ | exact hgv_ _ | exact hof_ _ | exact hth_ _ _ | exact hto_ _ _ | exact htk_ _ _ | exact hgc2_ _ (List.mem_of_getElem? (by assumption)) _ | exact hLc2_ _ (List.mem_of_getElem? (by assumption)))) ?_)); clear hA ac hW; intro w13 hW hfw13 ac hA
      refine qn <| sr_one (i := 12) (by kernel_rfl) (sr_d rfl hA (Runs.ofRd (v := vA #[vI .u64 en, vS A_L L.length c_L, vS A_Q Q.length c_Q]) (C' := Ws w No [rowR 29 1 enU8 (vS Ar4_5 (trimC (ofK L (g))).length cr4_5) (trimC (ofK L (g))), rowR 29 1 enU8 (vS Ar4_2 (gv ks (g)).length cr4_2) (gv ks (g)), Cel b5 #[vB false] 4, Cel b3 #[vI .i64 lim] 3, Cel b1 #[vI .u64 en, vS A_L L.length c_L, vS A_Q Q.length c_Q] 61] [Cel m #[vM (some bg), vM (some bt), vI .u64 en] 77, mapR bg (fun a : Int => vI .i64 a) SV.v G, mapR bt Thing.v SV.v T, nestR innerSV (NV [] G T), ClkR m bg G bt T en ks nn, nestR innerThg4 Q, roR A_Q 3 enThg4 Q, nestR innerOne4 L, roR A_L 2 enOne4 L]) hW (Rd.load (b := b1) (i := 0) (by kernel_rfl) (fun _ hw => (hw).cel 4 rfl) (by kernel_rfl)) ?_)); clear hA ac; intro  ac hA
      refine qn <| sr_one (i := 14) (by kernel_rfl) (sr_d rfl hA (Runs.callN (v := vB (decide (fullK (en) ks (g)))) (fun _ => by kernel_rfl) hW (e_dfull (en) A_L c_L L A_Q c_Q Q ks n2 (g) w13 ((hW).getG 8 rfl) (by first | assumption | omega | (simp; omega) | simp) ((hW).getG 7 rfl) hk_L ((hW).getG 6 rfl) (by first | assumption | omega | (simp; omega) | simp) ((hW).getG 5 rfl) hk_Q (by first | omega | assumption | exact ⟨by omega, by omega⟩ | exact hgv_ _ | exact hof_ _ | exact hth_ _ _ | exact hto_ _ _ | exact htk_ _ _ | exact hgc2_ _ (List.mem_of_getElem? (by assumption)) _ | exact hLc2_ _ (List.mem_of_getElem? (by assumption))) (by first | omega | assumption | exact ⟨by omega, by omega⟩ | exact hgv_ _ | exact hof_ _ | exact hth_ _ _ | exact hto_ _ _ | exact htk_ _ _ | exact hgc2_ _ (List.mem_of_getElem? (by assumption)) _ | exact hLc2_ _ (List.mem_of_getElem? (by assumption))) (by first | omega | assumption | exact ⟨by omega, by omega⟩ | exact hgv_ _ | exact hof_ _ | exact hth_ _ _ | exact hto_ _ _ | exact htk_ _ _ | exact hgc2_ _ (List.mem_of_getElem? (by assumption)) _ | exact hLc2_ _ (List.mem_of_getElem? (by assumption)))) ?_)); clear hA ac hW; intro w14 hW hfw14 ac hA
      refine qn <| sr_p 15 (vB (!((decide (fullK en ks (g))) == (decide (fullK (en) ks (g)))))) hR rfl hA fun ac hA => sr_p 16 (vB (!((decide (fullK en ks (g))) == (decide (fullK (en) ks (g)))))) hR rfl hA fun ac hA => sr_done (by kernel_rfl) ?_ _
      exact ⟨Ar4_2, Ar4_5, cr4_2, cr4_5, hA.sub (by and_intros <;> first | kernel_rfl | trivial), (hW.pick [0, 1, 2, 3, 4] (by decide) rfl).pickG [0, 1, 2, 3, 4, 5, 6, 7, 8] rfl⟩
     ·
      refine (sr_d rfl hA (Runs.ofRd (v := vA #[vI .u64 en, vS A_L L.length c_L, vS A_Q Q.length c_Q]) (C' := Ws w No [rowR 29 1 enU8 (vS Ar4_5 (trimC (ofK L (g))).length cr4_5) (trimC (ofK L (g))), rowR 29 1 enU8 (vS Ar4_2 (gv ks (g)).length cr4_2) (gv ks (g)), Cel b5 #[vB false] 4, Cel b3 #[vI .i64 lim] 3, Cel b1 #[vI .u64 en, vS A_L L.length c_L, vS A_Q Q.length c_Q] 61] [Cel m #[vM (some bg), vM (some bt), vI .u64 en] 77, mapR bg (fun a : Int => vI .i64 a) SV.v G, mapR bt Thing.v SV.v T, nestR innerSV (NV [] G T), ClkR m bg G bt T en ks nn, nestR innerThg4 Q, roR A_Q 3 enThg4 Q, nestR innerOne4 L, roR A_L 2 enOne4 L]) hW (Rd.load (b := b1) (i := 0) (by kernel_rfl) (fun _ hw => (hw).cel 4 rfl) (by kernel_rfl)) ?_)); clear hA ac; intro  ac hA
      refine qn <| sr_one (i := 11) (by kernel_rfl) (sr_d rfl hA (Runs.callN (v := vB (decide (fullK en ks (g)))) (fun _ => by kernel_rfl) hW (e_kfull m bg G bt T en ks nn (g) w12 ((hW).getG 4 rfl) ((hW).glt _ (List.mem_of_getElem? (i := 4) rfl)) (by first | omega | assumption | exact ⟨by omega, by omega⟩ | exact hgv_ _ | exact hof_ _ | exact hth_ _ _ | exact hto_ _ _ | exact htk_ _ _ | exact hgc2_ _ (List.mem_of_getElem? (by assumption)) _ | exact hLc2_ _ (List.mem_of_getElem? (by assumption))) (by first | omega | assumption | exact ⟨by omega, by omega⟩ | exact hgv_ _ | exact hof_ _ | exact hth_ _ _ | exact hto_ _ _ | exact htk_ _ _ | exact hgc2_ _ (List.mem_of_getElem? (by assumption)) _ | exact hLc2_ _ (List.mem_of_getElem? (by assumption)))) ?_)); clear hA ac hW; intro w15 hW hfw15 ac hA
      refine qn <| sr_one (i := 14) (by kernel_rfl) (sr_d rfl hA (Runs.callN (v := vB (decide (fullK (en) ks (g)))) (fun _ => by kernel_rfl) hW (e_dfull (en) A_L c_L L A_Q c_Q Q ks n2 (g) w15 ((hW).getG 8 rfl) (by first | assumption | omega | (simp; omega) | simp) ((hW).getG 7 rfl) hk_L ((hW).getG 6 rfl) (by first | assumption | omega | (simp; omega) | simp) ((hW).getG 5 rfl) hk_Q (by first | omega | assumption | exact ⟨by omega, by omega⟩ | exact hgv_ _ | exact hof_ _ | exact hth_ _ _ | exact hto_ _ _ | exact htk_ _ _ | exact hgc2_ _ (List.mem_of_getElem? (by assumption)) _ | exact hLc2_ _ (List.mem_of_getElem? (by assumption))) (by first | omega | assumption | exact ⟨by omega, by omega⟩ | exact hgv_ _ | exact hof_ _ | exact hth_ _ _ | exact hto_ _ _ | exact htk_ _ _ | exact hgc2_ _ (List.mem_of_getElem? (by assumption)) _ | exact hLc2_ _ (List.mem_of_getElem? (by assumption))) (by first | omega | assumption | exact ⟨by omega, by omega⟩ | exact hgv_ _ | exact hof_ _ | exact hth_ _ _ | exact hto_ _ _ | exact htk_ _ _ | exact hgc2_ _ (List.mem_of_getElem? (by assumption)) _ | exact hLc2_ _ (List.mem_of_getElem? (by assumption)))) ?_)); clear hA ac hW; intro w16 hW hfw16 ac hA
      refine qn <| sr_p 15 (vB (!((decide (fullK en ks (g))) == (decide (fullK (en) ks (g)))))) hR rfl hA fun ac hA => sr_p 16 (vB (!((decide (fullK en ks (g))) == (decide (fullK (en) ks (g)))))) hR rfl hA fun ac hA => sr_done (by kernel_rfl) ?_ _
      exact ⟨Ar4_2, Ar4_5, cr4_2, cr4_5, hA.sub (by and_intros <;> first | kernel_rfl | trivial), (hW.pick [0, 1, 2, 3, 4] (by decide) rfl).pickG [0, 1, 2, 3, 4, 5, 6, 7, 8] rfl⟩
   clear hA ac hW; rintro ac w17 ⟨Ar4_2, Ar4_5, cr4_2, cr4_5, hA, hW⟩
   refine thenN <| wpIn_cond_split (t := !((decide (fullK en ks (g))) == (decide (fullK (en) ks (g))))) (hA.eval (by kernel_rfl)) (fun h18 => ?_) (fun h18 => ?_)
   ·
    have h18 := bbne_t h18
    first
    | (exfalso; clear hA hW; omega)
    | (exfalso; clear hA hW; simp at h18; done)
    | (exfalso; clear hA hW; rw [hD.of] at h18; simp at h18; done)
    | (exfalso; clear hA hW; rw [hD.t, (hD.tb _ _).2] at h18; simp at h18; done)
    | (
     refine wpIn_seq <| wpIn_region_lit <| stF hA (by kernel_rfl) (by kernel_rfl) (by kernel_rfl) (by kernel_rfl) (RunsF.of (Runs.store (v := vB false) (b := b5) (j := 0) (n := 1) (cs' := #[vB false]) (H' := [rowR 29 1 enU8 (vS Ar4_5 (trimC (ofK L (g))).length cr4_5) (trimC (ofK L (g))), rowR 29 1 enU8 (vS Ar4_2 (gv ks (g)).length cr4_2) (gv ks (g)), Cel b5 #[vB false] 4, Cel b3 #[vI .i64 lim] 3, Cel b1 #[vI .u64 en, vS A_L L.length c_L, vS A_Q Q.length c_Q] 61]) (by kernel_rfl) (by kernel_rfl) (by kernel_rfl) (by kernel_rfl) (by kernel_rfl) hW 2 (by rfl) (Nat.le_of_ble_eq_true (by kernel_rfl)) (by kernel_rfl) (by rfl) ?_)); clear hA ac hW; intro w19 hW ac hA
     refine wpListIn_nil <| thenN <| wpIn_ret <| blkR <| thenR <| thenR <| blkR <| thenR <| retF (.inl rfl) hA <| leave1 (v := vB false) (by rfl) (GotF.cell (b := b5) (i := 0) hA (by kernel_rfl) (by kernel_rfl) (hW.cel 2 rfl) (by kernel_rfl)) ?_
     clear hA
     exact ⟨retv (by (refine congrArg vB (beq_iff_eq.2 ?_); omega)), hW.fr⟩)
   have h18 := bbne_f h18
   first
   | (exfalso; clear hA hW; omega)
   | (exfalso; clear hA hW; simp at h18; done)
   | (exfalso; clear hA hW; rw [hD.of] at h18; simp at h18; done)
   | (exfalso; clear hA hW; rw [hD.t, (hD.tb _ _).2] at h18; simp at h18; done)
   | (
    refine wpIn_skip <| blkN <| thenN <| wpIn_region_lit <| st_rdF (v := vI .i64 g) hA (by kernel_rfl) (by kernel_rfl) (by kernel_rfl) (by kernel_rfl) hW.cls (Rd.pure fun _ => by kernel_rfl) ?_; clear hA ac; intro ac hA
    refine st_rdF (v := vI .i64 ((g : Int) + 1)) hA (by kernel_rfl) (by kernel_rfl) (by kernel_rfl) (by kernel_rfl) hW.cls (Rd.pureE (v0 := vI .i64 (IntKind.i64.wrap ((g : Int) + 1))) (fun _ => by kernel_rfl) (congrArg (vI .i64) ((w_i64 (x := (g : Int) + 1) (by omega) (by omega)).trans (by omega)))) ?_; clear hA ac; intro ac hA
    refine st_rdF (v := vI .i64 ((g : Int) + 1)) hA (by kernel_rfl) (by kernel_rfl) (by kernel_rfl) (by kernel_rfl) hW.cls (Rd.pure fun _ => by kernel_rfl) ?_; clear hA ac; intro ac hA
    refine wpListIn_nil <| thenN ?_
    exact ⟨(8 - ((g : Int) + 1)).toNat + 0, by omega, (g : Int) + 1, rfl, by omega, hA.sub (by and_intros <;> first | kernel_rfl | trivial), (hW.pick [2, 3, 4] (by decide) rfl).pickG [0, 1, 2, 3, 4, 5, 6, 7, 8] rfl⟩))
 have h8 := of_decide_eq_false h8
 first
 | (exfalso; clear hA hW; omega)
 | (exfalso; clear hA hW; simp at h8; done)
 | (exfalso; clear hA hW; rw [hD.of] at h8; simp at h8; done)
 | (exfalso; clear hA hW; rw [hD.t, (hD.tb _ _).2] at h8; simp at h8; done)
 | (
  refine wpIn_exit <| thenX <| thenX <| blkX <| thenN <| wpIn_seq <| wpIn_seq <| wpIn_region_lit <| st_rdF (v := vI .i64 0) hA (by kernel_rfl) (by kernel_rfl) (by kernel_rfl) (by kernel_rfl) hW.cls (Rd.pure fun _ => by kernel_rfl) ?_; clear hA ac; intro ac hA
  refine wpListIn_nil <| thenN <| wpIn_block <| wpIn_loop_m (fun m_ ac_ wl_ => ∃ k : Nat, m_ = 15 - k ∧ (k ≤ 15) ∧ Fm 103 [] [(0, pA m 0), (4, pA b1 0), (5, pA b3 0), (6, pA b5 0), (8, vI .i64 (k : Int))] ac_ ∧ Ws w No [Cel b5 #[vB false] 4, Cel b3 #[vI .i64 lim] 3, Cel b1 #[vI .u64 en, vS A_L L.length c_L, vS A_Q Q.length c_Q] 61] [Cel m #[vM (some bg), vM (some bt), vI .u64 en] 77, mapR bg (fun a : Int => vI .i64 a) SV.v G, mapR bt Thing.v SV.v T, nestR innerSV (NV [] G T), ClkR m bg G bt T en ks nn, nestR innerThg4 Q, roR A_Q 3 enThg4 Q, nestR innerOne4 L, roR A_L 2 enOne4 L] wl_) _ ⟨0, rfl, by omega, hA.sub (by and_intros <;> first | kernel_rfl | trivial), (hW.pick [0, 1, 2] (by decide) rfl).pickG [0, 1, 2, 3, 4, 5, 6, 7, 8] rfl⟩ ?_
  clear hA ac hW; rintro m_ ac w20 ⟨k, rfl, hk, hA, hW⟩
  refine wpIn_seq <| wpIn_seq <| wpIn_region_lit <| st_rdF (v := vI .i64 (k : Int)) hA (by kernel_rfl) (by kernel_rfl) (by kernel_rfl) (by kernel_rfl) hW.cls (Rd.pure fun _ => by kernel_rfl) ?_; clear hA ac; intro ac hA
  refine st_rdF (v := vB (decide ((k : Int) ≤ (14 : Int)))) hA (by kernel_rfl) (by kernel_rfl) (by kernel_rfl) (by kernel_rfl) hW.cls (Rd.pure fun _ => by kernel_rfl) ?_; clear hA ac; intro ac hA
  refine wpListIn_nil <| thenN <| wpIn_cond_split (t := decide ((k : Int) ≤ (14 : Int))) (hA.eval (by kernel_rfl)) (fun h21 => ?_) (fun h21 => ?_)
  ·
   have h21 := of_decide_eq_true h21
   first
   | (exfalso; clear hA hW; omega)
   | (exfalso; clear hA hW; simp at h21; done)
   | (exfalso; clear hA hW; rw [hD.of] at h21; simp at h21; done)
   | (exfalso; clear hA hW; rw [hD.t, (hD.tb _ _).2] at h21; simp at h21; done)
   | (
    refine wpIn_skip <| thenN <| wpIn_seq <| wpIn_block <| wpIn_seq <| wpIn_region_lit <| st_rdF (v := vI .i64 0) hA (by kernel_rfl) (by kernel_rfl) (by kernel_rfl) (by kernel_rfl) hW.cls (Rd.pure fun _ => by kernel_rfl) ?_; clear hA ac; intro ac hA
    refine wpListIn_nil <| thenN <| wpIn_block <| wpIn_loop_m (fun m_ ac_ wl_ => ∃ o : Nat, m_ = 3 - o ∧ (o ≤ 3) ∧ Fm 103 [] [(0, pA m 0), (4, pA b1 0), (5, pA b3 0), (6, pA b5 0), (8, vI .i64 (k : Int)), (9, vI .i64 (o : Int))] ac_ ∧ Ws w No [Cel b5 #[vB false] 4, Cel b3 #[vI .i64 lim] 3, Cel b1 #[vI .u64 en, vS A_L L.length c_L, vS A_Q Q.length c_Q] 61] [Cel m #[vM (some bg), vM (some bt), vI .u64 en] 77, mapR bg (fun a : Int => vI .i64 a) SV.v G, mapR bt Thing.v SV.v T, nestR innerSV (NV [] G T), ClkR m bg G bt T en ks nn, nestR innerThg4 Q, roR A_Q 3 enThg4 Q, nestR innerOne4 L, roR A_L 2 enOne4 L] wl_) _ ⟨0, rfl, by omega, hA.sub (by and_intros <;> first | kernel_rfl | trivial), (hW.pick [0, 1, 2] (by decide) rfl).pickG [0, 1, 2, 3, 4, 5, 6, 7, 8] rfl⟩ ?_
    clear hA ac hW; rintro m_ ac w22 ⟨o, rfl, ho, hA, hW⟩
    refine wpIn_seq <| wpIn_seq <| wpIn_region_lit <| st_rdF (v := vI .i64 (o : Int)) hA (by kernel_rfl) (by kernel_rfl) (by kernel_rfl) (by kernel_rfl) hW.cls (Rd.pure fun _ => by kernel_rfl) ?_; clear hA ac; intro ac hA
    refine st_rdF (v := vB (decide ((o : Int) < (3 : Int)))) hA (by kernel_rfl) (by kernel_rfl) (by kernel_rfl) (by kernel_rfl) hW.cls (Rd.pure fun _ => by kernel_rfl) ?_; clear hA ac; intro ac hA
    refine wpListIn_nil <| thenN <| wpIn_cond_split (t := decide ((o : Int) < (3 : Int))) (hA.eval (by kernel_rfl)) (fun h23 => ?_) (fun h23 => ?_)
    ·
     have h23 := of_decide_eq_true h23
     first
     | (exfalso; clear hA hW; omega)
     | (exfalso; clear hA hW; simp at h23; done)
     | (exfalso; clear hA hW; rw [hD.of] at h23; simp at h23; done)
     | (exfalso; clear hA hW; rw [hD.t, (hD.tb _ _).2] at h23; simp at h23; done)
     | (
      refine wpIn_skip <| thenN <| wpIn_seq <| wpIn_block <| wpIn_seq <| wpIn_cut (fun ac_ wl_ => ∃ Aowr12_7 : Option Addr, ∃ Ar12_3 : Option Addr, ∃ Ar12_8 : Option Addr, ∃ cowr12_7 : Nat, ∃ cr12_3 : Nat, ∃ cr12_8 : Nat, ((thK Q (k : Int) (o : Int)).length ≤ cowr12_7) ∧ Fm 103 [] [(0, pA m 0), (4, pA b1 0), (5, pA b3 0), (6, pA b5 0), (8, vI .i64 (k : Int)), (9, vI .i64 (o : Int)), (39, vI .i64 (o : Int)), (40, vB (decide ((o : Int) < (3 : Int)))), (53, vB (!(decide (ks.t (k : Int) (o : Int) = trimC (thK Q (k : Int) (o : Int))))))] ac_ ∧ Ws w No [rowR 29 1 enU8 (vS Ar12_8 (trimC (thK Q (k : Int) (o : Int))).length cr12_8) (trimC (thK Q (k : Int) (o : Int))), rowR 29 1 enU8 (vS Ar12_3 (ks.t (k : Int) (o : Int)).length cr12_3) (ks.t (k : Int) (o : Int)), Cel b5 #[vB false] 4, Cel b3 #[vI .i64 lim] 3, Cel b1 #[vI .u64 en, vS A_L L.length c_L, vS A_Q Q.length c_Q] 61] [roR Aowr12_7 1 enU8 (thK Q (k : Int) (o : Int)), Cel m #[vM (some bg), vM (some bt), vI .u64 en] 77, mapR bg (fun a : Int => vI .i64 a) SV.v G, mapR bt Thing.v SV.v T, nestR innerSV (NV [] G T), ClkR m bg G bt T en ks nn, nestR innerThg4 Q, roR A_Q 3 enThg4 Q, nestR innerOne4 L, roR A_L 2 enOne4 L] wl_) ?_ ?_
      · refine sr_regionF (m := 11) (C := Ws w No [Cel b5 #[vB false] 4, Cel b3 #[vI .i64 lim] 3, Cel b1 #[vI .u64 en, vS A_L L.length c_L, vS A_Q Q.length c_Q] 61] [Cel m #[vM (some bg), vM (some bt), vI .u64 en] 77, mapR bg (fun a : Int => vI .i64 a) SV.v G, mapR bt Thing.v SV.v T, nestR innerSV (NV [] G T), ClkR m bg G bt T en ks nn, nestR innerThg4 Q, roR A_Q 3 enThg4 Q, nestR innerOne4 L, roR A_L 2 enOne4 L]) (fun i => [4].contains i) (fun i => [3, 4].contains i) (fun i => [0, 1, 2, 5, 6, 10].contains i) (by kernel_rfl) (by kernel_rfl) (by kernel_rfl) (by kernel_rfl) (by kernel_rfl) (fun _ _ h => h) hW ?_; clear hW; intro w24 hW hfw24 hR; have hC : Ws w No [Cel b5 #[vB false] 4, Cel b3 #[vI .i64 lim] 3, Cel b1 #[vI .u64 en, vS A_L L.length c_L, vS A_Q Q.length c_Q] 61] [Cel m #[vM (some bg), vM (some bt), vI .u64 en] 77, mapR bg (fun a : Int => vI .i64 a) SV.v G, mapR bt Thing.v SV.v T, nestR innerSV (NV [] G T), ClkR m bg G bt T en ks nn, nestR innerThg4 Q, roR A_Q 3 enThg4 Q, nestR innerOne4 L, roR A_L 2 enOne4 L] w24 := hW.pick [0, 1, 2] (by decide) rfl
        refine sr_p 0 (pA m 0) hR rfl hA fun ac hA => sr_p 1 (vI .i64 (k : Int)) hR rfl hA fun ac hA => sr_p 2 (vI .i64 (o : Int)) hR rfl hA fun ac hA => sr_t 4 (vA #[vI .u64 en, vS A_L L.length c_L, vS A_Q Q.length c_Q]) hR rfl hA hC (Rd.load (b := b1) (i := 0) (by kernel_rfl) (fun _ hw => (hw).cel 2 rfl) (by kernel_rfl)) fun ac hA => sr_p 5 (vI .i64 (k : Int)) hR rfl hA fun ac hA => sr_p 6 (vI .i64 (o : Int)) hR rfl hA fun ac hA => sr_one (i := 3) (by kernel_rfl) (sr_d rfl hA (Runs.callRow (E := 29) (sz := 1) (en := enU8) (l := (ks.t (k : Int) (o : Int))) (fun _ => by kernel_rfl) hW (e_kthing m bg G bt T en ks nn (k : Int) (o : Int) w24 ((hW).getG 4 rfl) ((hW).glt _ (List.mem_of_getElem? (i := 4) rfl)) (by first | omega | assumption | exact ⟨by omega, by omega⟩ | exact hgv_ _ | exact hof_ _ | exact hth_ _ _ | exact hto_ _ _ | exact htk_ _ _ | exact hgc2_ _ (List.mem_of_getElem? (by assumption)) _ | exact hLc2_ _ (List.mem_of_getElem? (by assumption))) (by first | omega | assumption | exact ⟨by omega, by omega⟩ | exact hgv_ _ | exact hof_ _ | exact hth_ _ _ | exact hto_ _ _ | exact htk_ _ _ | exact hgc2_ _ (List.mem_of_getElem? (by assumption)) _ | exact hLc2_ _ (List.mem_of_getElem? (by assumption))) (by first | omega | assumption | exact ⟨by omega, by omega⟩ | exact hgv_ _ | exact hof_ _ | exact hth_ _ _ | exact hto_ _ _ | exact htk_ _ _ | exact hgc2_ _ (List.mem_of_getElem? (by assumption)) _ | exact hLc2_ _ (List.mem_of_getElem? (by assumption)))) ?_)); clear hA ac hW; intro Ar12_3 cr12_3 w25 hW hccr12_3 hfw25 ac hA
        refine ⟨⟨fun _ => (hW.pick [1, 2, 3] (by decide) rfl).pickG [0, 1, 2, 3, 4, 5, 6, 7, 8] rfl, fun h => absurd h (by decide)⟩, ?_⟩; have hC : Ws w No [Cel b5 #[vB false] 4, Cel b3 #[vI .i64 lim] 3, Cel b1 #[vI .u64 en, vS A_L L.length c_L, vS A_Q Q.length c_Q] 61] [Cel m #[vM (some bg), vM (some bt), vI .u64 en] 77, mapR bg (fun a : Int => vI .i64 a) SV.v G, mapR bt Thing.v SV.v T, nestR innerSV (NV [] G T), ClkR m bg G bt T en ks nn, nestR innerThg4 Q, roR A_Q 3 enThg4 Q, nestR innerOne4 L, roR A_L 2 enOne4 L] w25 := (hW.pick [1, 2, 3] (by decide) rfl).pickG [0, 1, 2, 3, 4, 5, 6, 7, 8] rfl
        refine sr_one (i := 7) (by kernel_rfl) (sr_d rfl hA (Runs.call (fun _ => by kernel_rfl) (e_kthing4 (en) A_L c_L L A_Q c_Q Q (k : Int) (o : Int) w25 ((hW).getG 8 rfl) (by first | assumption | omega | (simp; omega) | simp) ((hW).getG 7 rfl) hk_L ((hW).getG 6 rfl) (by first | assumption | omega | (simp; omega) | simp) ((hW).getG 5 rfl) hk_Q (by first | omega | assumption | exact ⟨by omega, by omega⟩ | exact hgv_ _ | exact hof_ _ | exact hth_ _ _ | exact hto_ _ _ | exact htk_ _ _ | exact hgc2_ _ (List.mem_of_getElem? (by assumption)) _ | exact hLc2_ _ (List.mem_of_getElem? (by assumption))) (by first | omega | assumption | exact ⟨by omega, by omega⟩ | exact hgv_ _ | exact hof_ _ | exact hth_ _ _ | exact hto_ _ _ | exact htk_ _ _ | exact hgc2_ _ (List.mem_of_getElem? (by assumption)) _ | exact hLc2_ _ (List.mem_of_getElem? (by assumption))) (by first | omega | assumption | exact ⟨by omega, by omega⟩ | exact hgv_ _ | exact hof_ _ | exact hth_ _ _ | exact hto_ _ _ | exact htk_ _ _ | exact hgc2_ _ (List.mem_of_getElem? (by assumption)) _ | exact hLc2_ _ (List.mem_of_getElem? (by assumption))) (by first | omega | assumption | exact ⟨by omega, by omega⟩ | exact hgv_ _ | exact hof_ _ | exact hth_ _ _ | exact hto_ _ _ | exact htk_ _ _ | exact hgc2_ _ (List.mem_of_getElem? (by assumption)) _ | exact hLc2_ _ (List.mem_of_getElem? (by assumption))) (by first | omega | assumption | exact ⟨by omega, by omega⟩ | exact hgv_ _ | exact hof_ _ | exact hth_ _ _ | exact hto_ _ _ | exact htk_ _ _ | exact hgc2_ _ (List.mem_of_getElem? (by assumption)) _ | exact hLc2_ _ (List.mem_of_getElem? (by assumption))) (by first | omega | assumption | exact ⟨by omega, by omega⟩ | exact hgv_ _ | exact hof_ _ | exact hth_ _ _ | exact hto_ _ _ | exact htk_ _ _ | exact hgc2_ _ (List.mem_of_getElem? (by assumption)) _ | exact hLc2_ _ (List.mem_of_getElem? (by assumption)))) ?_))
        rintro _ w26 ⟨Aowr12_7, cowr12_7, rfl, hccowr12_7, hfcowr12_7, hfw26⟩; refine ⟨_, rfl, ?_⟩; have hW0 := hW; have hW := hW0.call hfw26
        have hW := hW0.addFromAt hW hfcowr12_7 (in_cons (in_at 8 rfl) (in_cons (in_at 7 rfl) (in_cons (in_at 6 rfl) (in_cons (in_at 5 rfl) in_nil))))
        clear hW0 hA ac; intro ac hA
        refine qn <| sr_one (i := 8) (by kernel_rfl) (sr_d rfl hA (Runs.callRow (E := 29) (sz := 1) (en := enU8) (l := (trimC (thK Q (k : Int) (o : Int)))) (fun _ => by kernel_rfl) hW (e_r4trim Aowr12_7 cowr12_7 (thK Q (k : Int) (o : Int)) w26 ((hW).getG 0 rfl) (by first | assumption | omega | (simp; omega) | simp) (by first | omega | assumption | exact ⟨by omega, by omega⟩ | exact hgv_ _ | exact hof_ _ | exact hth_ _ _ | exact hto_ _ _ | exact htk_ _ _ | exact hgc2_ _ (List.mem_of_getElem? (by assumption)) _ | exact hLc2_ _ (List.mem_of_getElem? (by assumption)))) ?_)); clear hA ac hW; intro Ar12_8 cr12_8 w27 hW hccr12_8 hfw27 ac hA
        refine qn <| sr_one (i := 9) (by kernel_rfl) (sr_d rfl hA (Runs.callN (v := vB (decide (ks.t (k : Int) (o : Int) = trimC (thK Q (k : Int) (o : Int))))) (fun _ => by kernel_rfl) hW (e_r4equal Ar12_3 cr12_3 (ks.t (k : Int) (o : Int)) Ar12_8 cr12_8 (trimC (thK Q (k : Int) (o : Int))) w27 (rowR_at ((hW).get 1 rfl) elt_U8.len) (own_cap ((hW).get 1 rfl)) (rowR_at ((hW).get 0 rfl) elt_U8.len) (own_cap ((hW).get 0 rfl)) (by first | omega | assumption | exact ⟨by omega, by omega⟩ | exact hgv_ _ | exact hof_ _ | exact hth_ _ _ | exact hto_ _ _ | exact htk_ _ _ | exact hgc2_ _ (List.mem_of_getElem? (by assumption)) _ | exact hLc2_ _ (List.mem_of_getElem? (by assumption))) (by first | omega | assumption | exact ⟨by omega, by omega⟩ | exact hgv_ _ | exact hof_ _ | exact hth_ _ _ | exact hto_ _ _ | exact htk_ _ _ | exact hgc2_ _ (List.mem_of_getElem? (by assumption)) _ | exact hLc2_ _ (List.mem_of_getElem? (by assumption)))) ?_)); clear hA ac hW; intro w28 hW hfw28 ac hA
        refine qn <| sr_p 10 (vB (!(decide (ks.t (k : Int) (o : Int) = trimC (thK Q (k : Int) (o : Int)))))) hR rfl hA ?_; clear hA ac; intro ac hA
        refine sr_done (by kernel_rfl) ?_ _
        exact ⟨Aowr12_7, Ar12_3, Ar12_8, cowr12_7, cr12_3, cr12_8, hccowr12_7, hA.sub (by and_intros <;> first | kernel_rfl | trivial), (hW.pick [0, 1, 2, 3, 4] (by decide) rfl).pickG [0, 1, 2, 3, 4, 5, 6, 7, 8, 9] rfl⟩
      clear hA ac hW; rintro ac w29 ⟨Aowr12_7, Ar12_3, Ar12_8, cowr12_7, cr12_3, cr12_8, hccowr12_7, hA, hW⟩
      refine thenN <| wpIn_cond_split (t := !(decide (ks.t (k : Int) (o : Int) = trimC (thK Q (k : Int) (o : Int))))) (hA.eval (by kernel_rfl)) (fun h30 => ?_) (fun h30 => ?_)
      ·
       have h30 := not_t h30
       first
       | (exfalso; clear hA hW; omega)
       | (exfalso; clear hA hW; simp at h30; done)
       | (exfalso; clear hA hW; rw [hD.of] at h30; simp at h30; done)
       | (exfalso; clear hA hW; rw [hD.t, (hD.tb _ _).2] at h30; simp at h30; done)
       | (
        refine wpIn_seq <| wpIn_region_lit <| stF hA (by kernel_rfl) (by kernel_rfl) (by kernel_rfl) (by kernel_rfl) (RunsF.of (Runs.store (v := vB false) (b := b5) (j := 0) (n := 1) (cs' := #[vB false]) (H' := [rowR 29 1 enU8 (vS Ar12_8 (trimC (thK Q (k : Int) (o : Int))).length cr12_8) (trimC (thK Q (k : Int) (o : Int))), rowR 29 1 enU8 (vS Ar12_3 (ks.t (k : Int) (o : Int)).length cr12_3) (ks.t (k : Int) (o : Int)), Cel b5 #[vB false] 4, Cel b3 #[vI .i64 lim] 3, Cel b1 #[vI .u64 en, vS A_L L.length c_L, vS A_Q Q.length c_Q] 61]) (by kernel_rfl) (by kernel_rfl) (by kernel_rfl) (by kernel_rfl) (by kernel_rfl) hW 2 (by rfl) (Nat.le_of_ble_eq_true (by kernel_rfl)) (by kernel_rfl) (by rfl) ?_)); clear hA ac hW; intro w31 hW ac hA
        refine wpListIn_nil <| thenN <| wpIn_ret <| blkR <| thenR <| thenR <| blkR <| blkR <| thenR <| thenR <| blkR <| thenR <| retF (.inl rfl) hA <| leave1 (v := vB false) (by rfl) (GotF.cell (b := b5) (i := 0) hA (by kernel_rfl) (by kernel_rfl) (hW.cel 2 rfl) (by kernel_rfl)) ?_
        clear hA
        exact ⟨retv (by (refine congrArg vB (beq_iff_eq.2 ?_); omega)), hW.fr⟩)
      have h30 := not_f h30
      first
      | (exfalso; clear hA hW; omega)
      | (exfalso; clear hA hW; simp at h30; done)
      | (exfalso; clear hA hW; rw [hD.of] at h30; simp at h30; done)
      | (exfalso; clear hA hW; rw [hD.t, (hD.tb _ _).2] at h30; simp at h30; done)
      | (
       refine wpIn_skip <| blkN <| thenN <| wpIn_region_lit <| st_rdF (v := vI .i64 (o : Int)) hA (by kernel_rfl) (by kernel_rfl) (by kernel_rfl) (by kernel_rfl) hW.cls (Rd.pure fun _ => by kernel_rfl) ?_; clear hA ac; intro ac hA
       refine st_rdF (v := vI .i64 ((o + 1 : Nat) : Int)) hA (by kernel_rfl) (by kernel_rfl) (by kernel_rfl) (by kernel_rfl) hW.cls (Rd.pureE (v0 := vI .i64 (IntKind.i64.wrap ((o : Int) + 1))) (fun _ => by kernel_rfl) (congrArg (vI .i64) ((w_i64 (x := (o : Int) + 1) (by omega) (by omega)).trans (by omega)))) ?_; clear hA ac; intro ac hA
       refine st_rdF (v := vI .i64 ((o + 1 : Nat) : Int)) hA (by kernel_rfl) (by kernel_rfl) (by kernel_rfl) (by kernel_rfl) hW.cls (Rd.pure fun _ => by kernel_rfl) ?_; clear hA ac; intro ac hA
       refine wpListIn_nil <| thenN ?_
       exact ⟨3 - (o + 1), by omega, o + 1, rfl, by omega, hA.sub (by and_intros <;> first | kernel_rfl | trivial), (hW.pick [2, 3, 4] (by decide) rfl).pickG [1, 2, 3, 4, 5, 6, 7, 8, 9] rfl⟩))
    have h23 := of_decide_eq_false h23
    first
    | (exfalso; clear hA hW; omega)
    | (exfalso; clear hA hW; simp at h23; done)
    | (exfalso; clear hA hW; rw [hD.of] at h23; simp at h23; done)
    | (exfalso; clear hA hW; rw [hD.t, (hD.tb _ _).2] at h23; simp at h23; done)
    | (
     refine wpIn_exit <| thenX <| thenX <| blkX <| blkN <| thenN <| wpIn_region_lit <| st_rdF (v := vI .i64 (k : Int)) hA (by kernel_rfl) (by kernel_rfl) (by kernel_rfl) (by kernel_rfl) hW.cls (Rd.pure fun _ => by kernel_rfl) ?_; clear hA ac; intro ac hA
     refine st_rdF (v := vI .i64 ((k + 1 : Nat) : Int)) hA (by kernel_rfl) (by kernel_rfl) (by kernel_rfl) (by kernel_rfl) hW.cls (Rd.pureE (v0 := vI .i64 (IntKind.i64.wrap ((k : Int) + 1))) (fun _ => by kernel_rfl) (congrArg (vI .i64) ((w_i64 (x := (k : Int) + 1) (by omega) (by omega)).trans (by omega)))) ?_; clear hA ac; intro ac hA
     refine st_rdF (v := vI .i64 ((k + 1 : Nat) : Int)) hA (by kernel_rfl) (by kernel_rfl) (by kernel_rfl) (by kernel_rfl) hW.cls (Rd.pure fun _ => by kernel_rfl) ?_; clear hA ac; intro ac hA
     refine wpListIn_nil <| thenN ?_
     exact ⟨15 - (k + 1), by omega, k + 1, rfl, by omega, hA.sub (by and_intros <;> first | kernel_rfl | trivial), (hW.pick [0, 1, 2] (by decide) rfl).pickG [0, 1, 2, 3, 4, 5, 6, 7, 8] rfl⟩))
  have h21 := of_decide_eq_false h21
  first
  | (exfalso; clear hA hW; omega)
  | (exfalso; clear hA hW; simp at h21; done)
  | (exfalso; clear hA hW; rw [hD.of] at h21; simp at h21; done)
  | (exfalso; clear hA hW; rw [hD.t, (hD.tb _ _).2] at h21; simp at h21; done)
  | (
   refine wpIn_exit <| thenX <| thenX <| blkX <| thenN <| wpIn_seq <| wpIn_region_lit <| st_rdF (v := pA m 0) hA (by kernel_rfl) (by kernel_rfl) (by kernel_rfl) (by kernel_rfl) hW.cls (Rd.pure fun _ => by kernel_rfl) ?_; clear hA ac; intro ac hA
   refine stF hA (by kernel_rfl) (by kernel_rfl) (by kernel_rfl) (by kernel_rfl) (RunsF.of (Runs.call (fun _ => by kernel_rfl) (e_kbegunI m bg G bt T en ks nn w20 ((hW).getG 4 rfl) ((hW).glt _ (List.mem_of_getElem? (i := 4) rfl)) (by first | omega | assumption | exact ⟨by omega, by omega⟩ | exact hgv_ _ | exact hof_ _ | exact hth_ _ _ | exact hto_ _ _ | exact htk_ _ _ | exact hgc2_ _ (List.mem_of_getElem? (by assumption)) _ | exact hLc2_ _ (List.mem_of_getElem? (by assumption))) (by first | omega | assumption | exact ⟨by omega, by omega⟩ | exact hgv_ _ | exact hof_ _ | exact hth_ _ _ | exact hto_ _ _ | exact htk_ _ _ | exact hgc2_ _ (List.mem_of_getElem? (by assumption)) _ | exact hLc2_ _ (List.mem_of_getElem? (by assumption)))) ?_))
   rintro _ w32 ⟨lb33, g34, rfl, hIg34, hfg34, hfw32⟩; refine ⟨_, rfl, ?_⟩; have hW0 := hW; have hW := hW0.call hfw32; have hW := hW0.addFromAt hW hfg34 in_nil; clear hW0 hA ac; intro ac hA
   refine st_rdF (v := vF (.func 60) #[] lb33) hA (by kernel_rfl) (by kernel_rfl) (by kernel_rfl) (by kernel_rfl) hW.cls (Rd.pure fun _ => by kernel_rfl) ?_; clear hA ac; intro ac hA
   refine wpListIn_nil <| thenN <| wpIn_seq <| wpIn_seq <| wpIn_region_lit <| st_rdF (v := vF (.func 60) #[] lb33) hA (by kernel_rfl) (by kernel_rfl) (by kernel_rfl) (by kernel_rfl) hW.cls (Rd.pure fun _ => by kernel_rfl) ?_; clear hA ac; intro ac hA
   refine st_rdF (v := vB false) hA (by kernel_rfl) (by kernel_rfl) (by kernel_rfl) (by kernel_rfl) hW.cls (Rd.pure fun _ => by kernel_rfl) ?_; clear hA ac; intro ac hA
   refine wpListIn_nil <| thenN <| wpIn_cond_false (hA.eval (by kernel_rfl)) <| wpIn_skip <| thenN <| wpIn_seq <| wpIn_region_lit <| stF hA (by kernel_rfl) (by kernel_rfl) (by kernel_rfl) (by kernel_rfl) (RunsF.of (Runs.cells (fun b => pA b 0) #[vI .i64 0] 3 (fun _ => by kernel_rfl) hW ?_)); clear hA ac hW; intro b35 w36 hW hb35 hfw36 ac hA
   refine stF hA (by kernel_rfl) (by kernel_rfl) (by kernel_rfl) (by kernel_rfl) (RunsF.of (Runs.store (v := vI .i64 0) (b := b35) (j := 0) (n := 1) (cs' := #[vI .i64 0]) (H' := [Cel b35 #[vI .i64 0] 3, Cel b5 #[vB false] 4, Cel b3 #[vI .i64 lim] 3, Cel b1 #[vI .u64 en, vS A_L L.length c_L, vS A_Q Q.length c_Q] 61]) (by kernel_rfl) (by kernel_rfl) (by kernel_rfl) (by kernel_rfl) (by kernel_rfl) hW 0 (by rfl) (Nat.le_of_ble_eq_true (by kernel_rfl)) (by kernel_rfl) (by rfl) ?_)); clear hA ac hW; intro w37 hW ac hA
   refine wpListIn_nil <| thenN <| wpIn_seq <| wpIn_seq <| wpIn_region_lit <| st_rdF (v := vF (.func 60) #[] lb33) hA (by kernel_rfl) (by kernel_rfl) (by kernel_rfl) (by kernel_rfl) hW.cls (Rd.pure fun _ => by kernel_rfl) ?_; clear hA ac; intro ac hA
   refine wpListIn_nil <| thenN <| wpIn_block ?_
   have hW := hW.share 3 rfl (H' := [Cel b35 #[vI .i64 0] 3, Cel b5 #[vB false] 4, Cel b3 #[vI .i64 lim] 3]) rfl
   have hW := hW.share 2 rfl (H' := [Cel b35 #[vI .i64 0] 3, Cel b5 #[vB false] 4]) rfl
   refine wp_range (encs := (fun x_ : One5 => #[vI .i64 x_.gx, vI .u64 x_.ax])) (Sx := (BegOf ks)) hA (by kernel_rfl) (by kernel_rfl) (enters_of Tryz.func60 (by kernel_rfl) rfl) (by kernel_rfl) (fun _ => rfl) hIg34 (List.forall_mem_singleton.2 (List.mem_of_getElem? (i := 2) rfl)) (fun pre_ H_ => ∃ n : Int, True ∧ (n = (pre_.length : Nat)) ∧ (n = 0 ∨ n < lim) ∧ H_ = [Cel b35 #[vI .i64 n] 3]) (fun c_ _ H_ => (c_ = .exit 6 ∧ ∃ n : Int, (n ≤ (L.length : Nat) ∧ n ≥ lim ∧ 1 ≤ n ∧ (n = 1 ∨ n ≤ lim)) ∧ H_ = [Cel b35 #[vI .i64 n] 3])) (H := [Cel b35 #[vI .i64 0] 3]) (K := [Cel b5 #[vB false] 4]) (hW.pick [0, 1] (by decide) rfl) ⟨0, trivial, by rfl, by omega, rfl⟩ ?_ ?_ ?_
   ·
    clear hA ac hW; intro l_38 rd_38 bs_38 pre_ x_ Hk_ w39 T_38 ac hrd_38 hbs_38 hbr_38 hok_ hJ_ hA hW hB_38 hT_38
    obtain ⟨n, _, hn, hm, rfl⟩ := hJ_
    obtain ⟨y40, h_⟩ : ∃ y_, y_ = x_ := ⟨_, rfl⟩; subst h_; obtain ⟨hbl_, hbr_, hby_⟩ := beg_comes hD hok_
    replace hA : Fm 103 [] [(0, pA m 0), (4, pA b1 0), (5, pA b3 0), (6, pA b5 0), (8, vI .i64 (k : Int)), (10, vF (.func 60) #[] lb33), (11, pA b35 0), (35, vI .i64 (k : Int)), (36, vB (decide ((k : Int) ≤ (14 : Int)))), (54, pA m 0), (55, vF (.func 60) #[] lb33), (56, vF (.func 60) #[] lb33), (57, vB false), (58, vF (.func 60) #[] lb33), (59, vI .i64 y40.gx), (60, vI .u64 y40.ax)] ac := hA.sub (by and_intros <;> first | kernel_rfl | trivial)
    refine wpIn_seq <| wpIn_region_lit <| st_rdF (v := vI .i64 y40.gx) hA (by kernel_rfl) (by kernel_rfl) (by kernel_rfl) (by kernel_rfl) hW.cls (Rd.pure fun _ => by kernel_rfl) ?_; clear hA ac; intro ac hA
    refine wpListIn_nil <| thenN <| wpIn_region_lit <| st_rdF (v := vI .u64 y40.ax) hA (by kernel_rfl) (by kernel_rfl) (by kernel_rfl) (by kernel_rfl) hW.cls (Rd.pure fun _ => by kernel_rfl) ?_; clear hA ac; intro ac hA
    refine wpListIn_nil <| thenN <| begun (bs := bs_38) (H' := [bs_38, Cel b35 #[vI .i64 n] 3]) hW 0 rfl (fun b hb => by rw [hbs_38] at hb; rw [hrd_38]; exact hb) rfl ?_; clear hW; intro w41 hW
    refine wpIn_block <| wpIn_seq <| wpIn_seq <| wpIn_region_lit <| st_rdF (v := vI .i64 n) hA (by kernel_rfl) (by kernel_rfl) (by kernel_rfl) (by kernel_rfl) hW.cls (rl b35 0 1) ?_; clear hA ac; intro ac hA
    refine st_rdF (v := pA b1 1) hA (by kernel_rfl) (by kernel_rfl) (by kernel_rfl) (by kernel_rfl) hW.cls (Rd.pure fun _ => by kernel_rfl) ?_; clear hA ac; intro ac hA
    refine st_rdF (v := vS A_L L.length c_L) hA (by kernel_rfl) (by kernel_rfl) (by kernel_rfl) (by kernel_rfl) hW.cls (Rd.load (b := b1) (i := 1) (by kernel_rfl) (fun _ hw => show _ = _ from (hw.1).getG 1 rfl) (by kernel_rfl)) ?_; clear hA ac; intro ac hA
    refine st_rdF (v := vI .i64 (L.length : Int)) hA (by kernel_rfl) (by kernel_rfl) (by kernel_rfl) (by kernel_rfl) hW.cls (Rd.pure fun _ => by kernel_rfl) ?_; clear hA ac; intro ac hA
    refine st_rdF (v := vB (decide ((n : Int) ≥ (L.length : Int)))) hA (by kernel_rfl) (by kernel_rfl) (by kernel_rfl) (by kernel_rfl) hW.cls (Rd.pure fun _ => by kernel_rfl) ?_; clear hA ac; intro ac hA
    refine st_rdF (v := vB (decide ((n : Int) ≥ (L.length : Int)))) hA (by kernel_rfl) (by kernel_rfl) (by kernel_rfl) (by kernel_rfl) hW.cls (Rd.pure fun _ => by kernel_rfl) ?_; clear hA ac; intro ac hA
    rcases Bool.eq_false_or_eq_true (decide ((n : Int) ≥ (L.length : Int))) with h42 | h42
    ·
     rw [h42] at hA
     have h42 := of_decide_eq_true h42
     first
     | (exfalso; clear hA hW; omega)
     | (exfalso; clear hA hW; simp at h42; done)
     | (exfalso; clear hA hW; rw [hD.of] at h42; simp at h42; done)
     | (exfalso; clear hA hW; rw [hD.t, (hD.tb _ _).2] at h42; simp at h42; done)
     | (
      fail)
    rw [h42] at hA
    have h42 := of_decide_eq_false h42
    first
    | (exfalso; clear hA hW; omega)
    | (exfalso; clear hA hW; simp at h42; done)
    | (exfalso; clear hA hW; rw [hD.of] at h42; simp at h42; done)
    | (exfalso; clear hA hW; rw [hD.t, (hD.tb _ _).2] at h42; simp at h42; done)
    | (
     refine st_rdF (v := vI .i64 y40.gx) hA (by kernel_rfl) (by kernel_rfl) (by kernel_rfl) (by kernel_rfl) hW.cls (Rd.pure fun _ => by kernel_rfl) ?_; clear hA ac; intro ac hA
     refine st_rdF (v := pA b1 1) hA (by kernel_rfl) (by kernel_rfl) (by kernel_rfl) (by kernel_rfl) hW.cls (Rd.pure fun _ => by kernel_rfl) ?_; clear hA ac; intro ac hA
     refine st_rdF (v := vS A_L L.length c_L) hA (by kernel_rfl) (by kernel_rfl) (by kernel_rfl) (by kernel_rfl) hW.cls (Rd.load (b := b1) (i := 1) (by kernel_rfl) (fun _ hw => show _ = _ from (hw.1).getG 1 rfl) (by kernel_rfl)) ?_; clear hA ac; intro ac hA
     refine st_rdF (v := vI .i64 n) hA (by kernel_rfl) (by kernel_rfl) (by kernel_rfl) (by kernel_rfl) hW.cls (rl b35 0 1) ?_; clear hA ac; intro ac hA
     obtain ⟨y43, hy43⟩ : ∃ y, L[Int.toNat (n)]? = some y := ⟨_, List.getElem?_eq_getElem (by first | omega | (simp; done) | (simp; omega))⟩
     rcases y43 with ⟨y43_w, y43_cl, y43_cl_A, y43_cl_c⟩
     obtain ⟨b44, o45, rfl, hbb44⟩ := row_some ((hW).getG 11 rfl) hy43
     refine st_rdF (v := vP (some ⟨b44, o45 + (Int.toNat (n)) * 2, none⟩)) hA (by kernel_rfl) (by kernel_rfl) (by kernel_rfl) (by kernel_rfl) hW.cls (Rd.indexAddrI (e := 104) (sz := 2) (b := b44) (off := o45) (n := L.length) (c := c_L) (k := n) (by kernel_rfl) (by kernel_rfl) (by omega) (by first | omega | (simp; done) | (simp; omega)) (fun _ => by kernel_rfl) (fun _ => by kernel_rfl)) ?_; clear hA ac; intro ac hA
     refine st_rdF (v := vP (some ⟨b44, o45 + (Int.toNat (n)) * 2, none⟩)) hA (by kernel_rfl) (by kernel_rfl) (by kernel_rfl) (by kernel_rfl) hW.cls (Rd.pure fun _ => by kernel_rfl) ?_; clear hA ac; intro ac hA
     refine st_rdF (v := vI .i64 y43_w) hA (by kernel_rfl) (by kernel_rfl) (by kernel_rfl) (by kernel_rfl) hW.cls (Rd.loadRow (b := b44) (i := o45 + (Int.toNat (n)) * 2) (xs := [vI .i64 y43_w]) (by kernel_rfl) (fun _ hw => row_ld ((hw.1).getG 11 rfl) hy43 (Fr.refl No _) (fun h => h) 0 1 (by kernel_rfl)) (by kernel_rfl)) ?_; clear hA ac; intro ac hA
     refine st_rdF (v := vB ((y40.gx : Int) != (y43_w : Int))) hA (by kernel_rfl) (by kernel_rfl) (by kernel_rfl) (by kernel_rfl) hW.cls (Rd.pure fun _ => by kernel_rfl) ?_; clear hA ac; intro ac hA
     refine st_rdF (v := vB ((y40.gx : Int) != (y43_w : Int))) hA (by kernel_rfl) (by kernel_rfl) (by kernel_rfl) (by kernel_rfl) hW.cls (Rd.pure fun _ => by kernel_rfl) ?_; clear hA ac; intro ac hA
     refine st_rdF (v := vB ((y40.gx : Int) != (y43_w : Int))) hA (by kernel_rfl) (by kernel_rfl) (by kernel_rfl) (by kernel_rfl) hW.cls (Rd.pure fun _ => by kernel_rfl) ?_; clear hA ac; intro ac hA
     rcases Bool.eq_false_or_eq_true ((y40.gx : Int) != (y43_w : Int)) with h46 | h46
     ·
      rw [h46] at hA
      have h46 := bne_iff_ne.1 h46
      first
      | (exfalso; clear hA hW; omega)
      | (exfalso; clear hA hW; have q_ := hby_ _ (show L[pre_.length]? = some _ from by rw [← hy43]; congr 1; omega); exact h46 q_.1.symm; done)
      | (exfalso; clear hA hW; have q_ := hby_ _ (show L[pre_.length]? = some _ from by rw [← hy43]; congr 1; omega); exact h46 q_.2; done)
      | (exfalso; clear hA hW; simp at h46; done)
      | (exfalso; clear hA hW; rw [hD.of] at h46; simp at h46; done)
      | (exfalso; clear hA hW; rw [hD.t, (hD.tb _ _).2] at h46; simp at h46; done)
      | (
       fail)
     rw [h46] at hA
     have h46 := of_bne_f h46
     first
     | (exfalso; clear hA hW; omega)
     | (exfalso; clear hA hW; have q_ := hby_ _ (show L[pre_.length]? = some _ from by rw [← hy43]; congr 1; omega); exact h46 q_.1.symm; done)
     | (exfalso; clear hA hW; have q_ := hby_ _ (show L[pre_.length]? = some _ from by rw [← hy43]; congr 1; omega); exact h46 q_.2; done)
     | (exfalso; clear hA hW; simp at h46; done)
     | (exfalso; clear hA hW; rw [hD.of] at h46; simp at h46; done)
     | (exfalso; clear hA hW; rw [hD.t, (hD.tb _ _).2] at h46; simp at h46; done)
     | (
      refine st_rdF (v := vI .u64 y40.ax) hA (by kernel_rfl) (by kernel_rfl) (by kernel_rfl) (by kernel_rfl) hW.cls (Rd.pure fun _ => by kernel_rfl) ?_; clear hA ac; intro ac hA
      refine st_rdF (v := vI .i64 y40.gx) hA (by kernel_rfl) (by kernel_rfl) (by kernel_rfl) (by kernel_rfl) hW.cls (Rd.pure fun _ => by kernel_rfl) ?_; clear hA ac; intro ac hA
      refine st_rdF (v := pA b1 1) hA (by kernel_rfl) (by kernel_rfl) (by kernel_rfl) (by kernel_rfl) hW.cls (Rd.pure fun _ => by kernel_rfl) ?_; clear hA ac; intro ac hA
      refine st_rdF (v := vS (some ⟨b44, o45, none⟩) L.length c_L) hA (by kernel_rfl) (by kernel_rfl) (by kernel_rfl) (by kernel_rfl) hW.cls (Rd.load (b := b1) (i := 1) (by kernel_rfl) (fun _ hw => show _ = _ from (hw.1).getG 1 rfl) (by kernel_rfl)) ?_; clear hA ac; intro ac hA
      refine st_rdF (v := vI .i64 n) hA (by kernel_rfl) (by kernel_rfl) (by kernel_rfl) (by kernel_rfl) hW.cls (rl b35 0 1) ?_; clear hA ac; intro ac hA
      refine st_rdF (v := vP (some ⟨b44, o45 + (Int.toNat (n)) * 2, none⟩)) hA (by kernel_rfl) (by kernel_rfl) (by kernel_rfl) (by kernel_rfl) hW.cls (Rd.indexAddrI (e := 104) (sz := 2) (b := b44) (off := o45) (n := L.length) (c := c_L) (k := n) (by kernel_rfl) (by kernel_rfl) (by omega) (by first | omega | (simp; done) | (simp; omega)) (fun _ => by kernel_rfl) (fun _ => by kernel_rfl)) ?_; clear hA ac; intro ac hA
      refine st_rdF (v := vP (some ⟨b44, o45 + (Int.toNat (n)) * 2 + 1, none⟩)) hA (by kernel_rfl) (by kernel_rfl) (by kernel_rfl) (by kernel_rfl) hW.cls (Rd.pure fun _ => by kernel_rfl) ?_; clear hA ac; intro ac hA
      have hW := hW.nestAt 10 rfl (List.mem_of_getElem? hy43)
      have hc_y43_cl : y43_cl.length ≤ y43_cl_c := hk_L _ (List.mem_of_getElem? hy43)
      replace hW : Ws w39 T_38 [bs_38, Cel b35 #[vI .i64 n] 3] [roR y43_cl_A 1 enU8 y43_cl, Cel b3 #[vI .i64 lim] 3, Cel b1 #[vI .u64 en, vS (some ⟨b44, o45, none⟩) L.length c_L, vS A_Q Q.length c_Q] 61, g34, Cel m #[vM (some bg), vM (some bt), vI .u64 en] 77, mapR bg (fun a : Int => vI .i64 a) SV.v G, mapR bt Thing.v SV.v T, nestR innerSV (NV [] G T), ClkR m bg G bt T en ks nn, nestR innerThg4 Q, roR A_Q 3 enThg4 Q, nestR innerOne4 L, roR (some ⟨b44, o45, none⟩) 2 enOne4 L] w41 := hW
      refine st_rdF (v := vS y43_cl_A y43_cl.length y43_cl_c) hA (by kernel_rfl) (by kernel_rfl) (by kernel_rfl) (by kernel_rfl) hW.cls (Rd.loadRow (b := b44) (i := o45 + (Int.toNat (n)) * 2 + 1) (xs := [vS y43_cl_A y43_cl.length y43_cl_c]) (by kernel_rfl) (fun _ hw => row_ld ((hw.1).getG 12 rfl) hy43 (Fr.refl No _) (fun h => h) 1 1 (by kernel_rfl)) (by kernel_rfl)) ?_; clear hA ac; intro ac hA
      refine st_rdF (v := vI .i64 y40.gx) hA (by kernel_rfl) (by kernel_rfl) (by kernel_rfl) (by kernel_rfl) hW.cls (Rd.pure fun _ => by kernel_rfl) ?_; clear hA ac; intro ac hA
      refine stF hA (by kernel_rfl) (by kernel_rfl) (by kernel_rfl) (by kernel_rfl) (RunsF.of (Runs.callN (v := vI .u64 (getC y43_cl (y40.gx))) (fun _ => by kernel_rfl) hW (e_r4get y43_cl_A y43_cl_c y43_cl (y40.gx) w41 ((hW).getG 0 rfl) (by first | assumption | omega | (simp; omega) | simp) (by first | omega | assumption | exact ⟨by omega, by omega⟩ | exact hgv_ _ | exact hof_ _ | exact hth_ _ _ | exact hto_ _ _ | exact htk_ _ _ | exact hgc2_ _ (List.mem_of_getElem? (by assumption)) _ | exact hLc2_ _ (List.mem_of_getElem? (by assumption)))) ?_)); clear hA ac hW; intro w47 hW hfw47 ac hA
      refine stF hA (by kernel_rfl) (by kernel_rfl) (by kernel_rfl) (by kernel_rfl) (RunsF.of (Runs.callN (v := vI .u64 (packV (y40.gx) (getC y43_cl (y40.gx)))) (fun _ => by kernel_rfl) hW (e_at (y40.gx) (getC y43_cl (y40.gx)) w47 (by first | omega | assumption | exact ⟨by omega, by omega⟩ | exact hgv_ _ | exact hof_ _ | exact hth_ _ _ | exact hto_ _ _ | exact htk_ _ _ | exact hgc2_ _ (List.mem_of_getElem? (by assumption)) _ | exact hLc2_ _ (List.mem_of_getElem? (by assumption))) (by first | omega | assumption | exact ⟨by omega, by omega⟩ | exact hgv_ _ | exact hof_ _ | exact hth_ _ _ | exact hto_ _ _ | exact htk_ _ _ | exact hgc2_ _ (List.mem_of_getElem? (by assumption)) _ | exact hLc2_ _ (List.mem_of_getElem? (by assumption)))) ?_)); clear hA ac hW; intro w48 hW hfw48 ac hA
      refine st_rdF (v := vB ((y40.ax : Int) != (packV (y40.gx) (getC y43_cl (y40.gx)) : Int))) hA (by kernel_rfl) (by kernel_rfl) (by kernel_rfl) (by kernel_rfl) hW.cls (Rd.pure fun _ => by kernel_rfl) ?_; clear hA ac; intro ac hA
      refine st_rdF (v := vB ((y40.ax : Int) != (packV (y40.gx) (getC y43_cl (y40.gx)) : Int))) hA (by kernel_rfl) (by kernel_rfl) (by kernel_rfl) (by kernel_rfl) hW.cls (Rd.pure fun _ => by kernel_rfl) ?_; clear hA ac; intro ac hA
      refine wpListIn_nil <| thenN <| wpIn_cond_split (t := (y40.ax : Int) != (packV (y40.gx) (getC y43_cl (y40.gx)) : Int)) (hA.eval (by kernel_rfl)) (fun h49 => ?_) (fun h49 => ?_)
      ·
       have h49 := bne_iff_ne.1 h49
       first
       | (exfalso; clear hA hW; omega)
       | (exfalso; clear hA hW; have q_ := hby_ _ (show L[pre_.length]? = some _ from by rw [← hy43]; congr 1; omega); exact h49 q_.1.symm; done)
       | (exfalso; clear hA hW; have q_ := hby_ _ (show L[pre_.length]? = some _ from by rw [← hy43]; congr 1; omega); exact h49 q_.2; done)
       | (exfalso; clear hA hW; simp at h49; done)
       | (exfalso; clear hA hW; rw [hD.of] at h49; simp at h49; done)
       | (exfalso; clear hA hW; rw [hD.t, (hD.tb _ _).2] at h49; simp at h49; done)
       | (
        fail)
      have h49 := of_bne_f h49
      first
      | (exfalso; clear hA hW; omega)
      | (exfalso; clear hA hW; have q_ := hby_ _ (show L[pre_.length]? = some _ from by rw [← hy43]; congr 1; omega); exact h49 q_.1.symm; done)
      | (exfalso; clear hA hW; have q_ := hby_ _ (show L[pre_.length]? = some _ from by rw [← hy43]; congr 1; omega); exact h49 q_.2; done)
      | (exfalso; clear hA hW; simp at h49; done)
      | (exfalso; clear hA hW; rw [hD.of] at h49; simp at h49; done)
      | (exfalso; clear hA hW; rw [hD.t, (hD.tb _ _).2] at h49; simp at h49; done)
      | (
       refine wpIn_skip <| thenN <| wpIn_seq <| wpIn_region_lit <| st_rdF (v := vI .i64 n) hA (by kernel_rfl) (by kernel_rfl) (by kernel_rfl) (by kernel_rfl) hW.cls (rl b35 0 1) ?_; clear hA ac; intro ac hA
       refine st_rdF (v := vI .i64 ((n : Int) + 1)) hA (by kernel_rfl) (by kernel_rfl) (by kernel_rfl) (by kernel_rfl) hW.cls (Rd.pureE (v0 := vI .i64 (IntKind.i64.wrap ((n : Int) + 1))) (fun _ => by kernel_rfl) (congrArg (vI .i64) ((w_i64 (x := (n : Int) + 1) (by omega) (by omega)).trans (by omega)))) ?_; clear hA ac; intro ac hA
       refine stF hA (by kernel_rfl) (by kernel_rfl) (by kernel_rfl) (by kernel_rfl) (RunsF.of (Runs.store (v := vI .i64 ((n : Int) + 1)) (b := b35) (j := 0) (n := 1) (cs' := #[vI .i64 ((n : Int) + 1)]) (H' := [bs_38, Cel b35 #[vI .i64 ((n : Int) + 1)] 3]) (by kernel_rfl) (by kernel_rfl) (by kernel_rfl) (by kernel_rfl) (by kernel_rfl) hW 1 (by rfl) (Nat.le_of_ble_eq_true (by kernel_rfl)) (by kernel_rfl) (by rfl) ?_)); clear hA ac hW; intro w50 hW ac hA
       refine wpListIn_nil <| thenN <| wpIn_seq <| wpIn_region_lit <| st_rdF (v := vI .i64 ((n : Int) + 1)) hA (by kernel_rfl) (by kernel_rfl) (by kernel_rfl) (by kernel_rfl) hW.cls (rl b35 0 1) ?_; clear hA ac; intro ac hA
       refine st_rdF (v := vI .i64 lim) hA (by kernel_rfl) (by kernel_rfl) (by kernel_rfl) (by kernel_rfl) hW.cls (Rd.load (b := b3) (i := 0) (by kernel_rfl) (fun _ hw => show _ = _ from (hw.1).getG 1 rfl) (by kernel_rfl)) ?_; clear hA ac; intro ac hA
       refine st_rdF (v := vB (decide (((n : Int) + 1 : Int) ≥ (lim : Int)))) hA (by kernel_rfl) (by kernel_rfl) (by kernel_rfl) (by kernel_rfl) hW.cls (Rd.pure fun _ => by kernel_rfl) ?_; clear hA ac; intro ac hA
       refine wpListIn_nil <| thenN <| wpIn_cond_split (t := decide (((n : Int) + 1 : Int) ≥ (lim : Int))) (hA.eval (by kernel_rfl)) (fun h51 => ?_) (fun h51 => ?_)
       ·
        have h51 := of_decide_eq_true h51
        first
        | (exfalso; clear hA hW; omega)
        | (exfalso; clear hA hW; have q_ := hby_ _ (show L[pre_.length]? = some _ from by rw [← hy43]; congr 1; omega); exact h51 q_.1.symm; done)
        | (exfalso; clear hA hW; have q_ := hby_ _ (show L[pre_.length]? = some _ from by rw [← hy43]; congr 1; omega); exact h51 q_.2; done)
        | (exfalso; clear hA hW; simp at h51; done)
        | (exfalso; clear hA hW; rw [hD.of] at h51; simp at h51; done)
        | (exfalso; clear hA hW; rw [hD.t, (hD.tb _ _).2] at h51; simp at h51; done)
        | (
         refine wpIn_exit <| blkY (by kernel_rfl) ?_
         exact ⟨_, ⟨rfl, (n : Int) + 1, by omega, rfl⟩, (hW.pick [0, 1] (by decide) rfl).pickG [1, 2, 3, 4, 5, 6, 7, 8, 9, 10, 11, 12] rfl⟩)
       have h51 := of_decide_eq_false h51
       first
       | (exfalso; clear hA hW; omega)
       | (exfalso; clear hA hW; have q_ := hby_ _ (show L[pre_.length]? = some _ from by rw [← hy43]; congr 1; omega); exact h51 q_.1.symm; done)
       | (exfalso; clear hA hW; have q_ := hby_ _ (show L[pre_.length]? = some _ from by rw [← hy43]; congr 1; omega); exact h51 q_.2; done)
       | (exfalso; clear hA hW; simp at h51; done)
       | (exfalso; clear hA hW; rw [hD.of] at h51; simp at h51; done)
       | (exfalso; clear hA hW; rw [hD.t, (hD.tb _ _).2] at h51; simp at h51; done)
       | (
        refine wpIn_skip <| blkN ?_
        exact ⟨_, ⟨(n : Int) + 1, trivial, by simp; omega, by omega, rfl⟩, (hW.pick [0, 1] (by decide) rfl).pickG [1, 2, 3, 4, 5, 6, 7, 8, 9, 10, 11, 12] rfl⟩))))
   ·
    clear hA ac hW; intro D52 xs_ Hk_ w53 ac hS_ hJ_ hA hW
    obtain ⟨n, _, hn, hm, rfl⟩ := hJ_
    replace hW : Ws w No [Cel b35 #[vI .i64 n] 3, DefR D52, Cel b5 #[vB false] 4] [Cel b3 #[vI .i64 lim] 3, Cel b1 #[vI .u64 en, vS A_L L.length c_L, vS A_Q Q.length c_Q] 61, g34, Cel m #[vM (some bg), vM (some bt), vI .u64 en] 77, mapR bg (fun a : Int => vI .i64 a) SV.v G, mapR bt Thing.v SV.v T, nestR innerSV (NV [] G T), ClkR m bg G bt T en ks nn, nestR innerThg4 Q, roR A_Q 3 enThg4 Q, nestR innerOne4 L, roR A_L 2 enOne4 L] w53 := hW
    have hall_ := beg_len hD hS_
    refine blkN <| thenN <| wpIn_seq <| wpIn_region_lit <| st_rdF (v := vI .i64 n) hA (by kernel_rfl) (by kernel_rfl) (by kernel_rfl) (by kernel_rfl) hW.cls (rl b35 0 0) ?_; clear hA ac; intro ac hA
    refine st_rdF (v := pA b1 1) hA (by kernel_rfl) (by kernel_rfl) (by kernel_rfl) (by kernel_rfl) hW.cls (Rd.pure fun _ => by kernel_rfl) ?_; clear hA ac; intro ac hA
    refine st_rdF (v := vS A_L L.length c_L) hA (by kernel_rfl) (by kernel_rfl) (by kernel_rfl) (by kernel_rfl) hW.cls (Rd.load (b := b1) (i := 1) (by kernel_rfl) (fun _ hw => show _ = _ from (hw.1).getG 1 rfl) (by kernel_rfl)) ?_; clear hA ac; intro ac hA
    refine st_rdF (v := vI .i64 (L.length : Int)) hA (by kernel_rfl) (by kernel_rfl) (by kernel_rfl) (by kernel_rfl) hW.cls (Rd.pure fun _ => by kernel_rfl) ?_; clear hA ac; intro ac hA
    refine st_rdF (v := vI .i64 lim) hA (by kernel_rfl) (by kernel_rfl) (by kernel_rfl) (by kernel_rfl) hW.cls (Rd.load (b := b3) (i := 0) (by kernel_rfl) (fun _ hw => show _ = _ from (hw.1).getG 0 rfl) (by kernel_rfl)) ?_; clear hA ac; intro ac hA
    refine st_rdF (v := vI .i64 (max (1 : Int) (lim : Int))) hA (by kernel_rfl) (by kernel_rfl) (by kernel_rfl) (by kernel_rfl) hW.cls (Rd.pureE (v0 := vI .i64 (if (lim : Int) > (1 : Int) then (lim : Int) else (1 : Int))) (fun _ => by kernel_rfl) (congrArg (vI .i64) (max_ _ _))) ?_; clear hA ac; intro ac hA
    refine st_rdF (v := vI .i64 (min (L.length : Int) (max (1 : Int) (lim : Int) : Int))) hA (by kernel_rfl) (by kernel_rfl) (by kernel_rfl) (by kernel_rfl) hW.cls (Rd.pureE (v0 := vI .i64 (if (max (1 : Int) (lim : Int) : Int) < (L.length : Int) then (max (1 : Int) (lim : Int) : Int) else (L.length : Int))) (fun _ => by kernel_rfl) (congrArg (vI .i64) (min_ _ _))) ?_; clear hA ac; intro ac hA
    refine st_rdF (v := vB ((n : Int) == (min (L.length : Int) (max (1 : Int) (lim : Int) : Int) : Int))) hA (by kernel_rfl) (by kernel_rfl) (by kernel_rfl) (by kernel_rfl) hW.cls (Rd.pure fun _ => by kernel_rfl) ?_; clear hA ac; intro ac hA
    refine stF hA (by kernel_rfl) (by kernel_rfl) (by kernel_rfl) (by kernel_rfl) (RunsF.of (Runs.store (v := vB ((n : Int) == (min (L.length : Int) (max (1 : Int) (lim : Int) : Int) : Int))) (b := b5) (j := 0) (n := 1) (cs' := #[vB ((n : Int) == (min (L.length : Int) (max (1 : Int) (lim : Int) : Int) : Int))]) (H' := [Cel b35 #[vI .i64 n] 3, DefR D52, Cel b5 #[vB ((n : Int) == (min (L.length : Int) (max (1 : Int) (lim : Int) : Int) : Int))] 4]) (by kernel_rfl) (by kernel_rfl) (by kernel_rfl) (by kernel_rfl) (by kernel_rfl) hW 2 (by rfl) (Nat.le_of_ble_eq_true (by kernel_rfl)) (by kernel_rfl) (by rfl) ?_)); clear hA ac hW; intro w54 hW ac hA
    refine wpListIn_nil <| thenN <| wpIn_ret <| retF (.inl rfl) hA <| leaveD (H' := [Cel b35 #[vI .i64 n] 3, Cel b5 #[vB ((n : Int) == (min (L.length : Int) (max (1 : Int) (lim : Int) : Int) : Int))] 4]) hW 1 rfl rfl ?_; clear hW; intro w55 hW
    refine leave1 (v := vB ((n : Int) == (min (L.length : Int) (max (1 : Int) (lim : Int) : Int) : Int))) (by rfl) (GotF.cell (b := b5) (i := 0) hA (by kernel_rfl) (by kernel_rfl) (hW.cel 1 rfl) (by kernel_rfl)) ?_
    clear hA
    exact ⟨retv (by (refine congrArg vB (beq_iff_eq.2 ?_); omega)), hW.fr⟩
   ·
    clear hA ac hW; intro D56 c_ pre_ Hk_ w57 ac hJ_ hA hW
    rcases hJ_ with ⟨rfl, n, hx, rfl⟩
    ·
     replace hW : Ws w No [Cel b35 #[vI .i64 n] 3, DefR D56, Cel b5 #[vB false] 4] [Cel b3 #[vI .i64 lim] 3, Cel b1 #[vI .u64 en, vS A_L L.length c_L, vS A_Q Q.length c_Q] 61, g34, Cel m #[vM (some bg), vM (some bt), vI .u64 en] 77, mapR bg (fun a : Int => vI .i64 a) SV.v G, mapR bt Thing.v SV.v T, nestR innerSV (NV [] G T), ClkR m bg G bt T en ks nn, nestR innerThg4 Q, roR A_Q 3 enThg4 Q, nestR innerOne4 L, roR A_L 2 enOne4 L] w57 := hW
     refine wpIn_exit <| blkX <| thenN <| wpIn_seq <| wpIn_region_lit <| st_rdF (v := vI .i64 n) hA (by kernel_rfl) (by kernel_rfl) (by kernel_rfl) (by kernel_rfl) hW.cls (rl b35 0 0) ?_; clear hA ac; intro ac hA
     refine st_rdF (v := pA b1 1) hA (by kernel_rfl) (by kernel_rfl) (by kernel_rfl) (by kernel_rfl) hW.cls (Rd.pure fun _ => by kernel_rfl) ?_; clear hA ac; intro ac hA
     refine st_rdF (v := vS A_L L.length c_L) hA (by kernel_rfl) (by kernel_rfl) (by kernel_rfl) (by kernel_rfl) hW.cls (Rd.load (b := b1) (i := 1) (by kernel_rfl) (fun _ hw => show _ = _ from (hw.1).getG 1 rfl) (by kernel_rfl)) ?_; clear hA ac; intro ac hA
     refine st_rdF (v := vI .i64 (L.length : Int)) hA (by kernel_rfl) (by kernel_rfl) (by kernel_rfl) (by kernel_rfl) hW.cls (Rd.pure fun _ => by kernel_rfl) ?_; clear hA ac; intro ac hA
     refine st_rdF (v := vI .i64 lim) hA (by kernel_rfl) (by kernel_rfl) (by kernel_rfl) (by kernel_rfl) hW.cls (Rd.load (b := b3) (i := 0) (by kernel_rfl) (fun _ hw => show _ = _ from (hw.1).getG 0 rfl) (by kernel_rfl)) ?_; clear hA ac; intro ac hA
     refine st_rdF (v := vI .i64 (max (1 : Int) (lim : Int))) hA (by kernel_rfl) (by kernel_rfl) (by kernel_rfl) (by kernel_rfl) hW.cls (Rd.pureE (v0 := vI .i64 (if (lim : Int) > (1 : Int) then (lim : Int) else (1 : Int))) (fun _ => by kernel_rfl) (congrArg (vI .i64) (max_ _ _))) ?_; clear hA ac; intro ac hA
     refine st_rdF (v := vI .i64 (min (L.length : Int) (max (1 : Int) (lim : Int) : Int))) hA (by kernel_rfl) (by kernel_rfl) (by kernel_rfl) (by kernel_rfl) hW.cls (Rd.pureE (v0 := vI .i64 (if (max (1 : Int) (lim : Int) : Int) < (L.length : Int) then (max (1 : Int) (lim : Int) : Int) else (L.length : Int))) (fun _ => by kernel_rfl) (congrArg (vI .i64) (min_ _ _))) ?_; clear hA ac; intro ac hA
     refine st_rdF (v := vB ((n : Int) == (min (L.length : Int) (max (1 : Int) (lim : Int) : Int) : Int))) hA (by kernel_rfl) (by kernel_rfl) (by kernel_rfl) (by kernel_rfl) hW.cls (Rd.pure fun _ => by kernel_rfl) ?_; clear hA ac; intro ac hA
     refine stF hA (by kernel_rfl) (by kernel_rfl) (by kernel_rfl) (by kernel_rfl) (RunsF.of (Runs.store (v := vB ((n : Int) == (min (L.length : Int) (max (1 : Int) (lim : Int) : Int) : Int))) (b := b5) (j := 0) (n := 1) (cs' := #[vB ((n : Int) == (min (L.length : Int) (max (1 : Int) (lim : Int) : Int) : Int))]) (H' := [Cel b35 #[vI .i64 n] 3, DefR D56, Cel b5 #[vB ((n : Int) == (min (L.length : Int) (max (1 : Int) (lim : Int) : Int) : Int))] 4]) (by kernel_rfl) (by kernel_rfl) (by kernel_rfl) (by kernel_rfl) (by kernel_rfl) hW 2 (by rfl) (Nat.le_of_ble_eq_true (by kernel_rfl)) (by kernel_rfl) (by rfl) ?_)); clear hA ac hW; intro w58 hW ac hA
     refine wpListIn_nil <| thenN <| wpIn_ret <| retF (.inl rfl) hA <| leaveD (H' := [Cel b35 #[vI .i64 n] 3, Cel b5 #[vB ((n : Int) == (min (L.length : Int) (max (1 : Int) (lim : Int) : Int) : Int))] 4]) hW 1 rfl rfl ?_; clear hW; intro w59 hW
     refine leave1 (v := vB ((n : Int) == (min (L.length : Int) (max (1 : Int) (lim : Int) : Int) : Int))) (by rfl) (GotF.cell (b := b5) (i := 0) hA (by kernel_rfl) (by kernel_rfl) (hW.cel 1 rfl) (by kernel_rfl)) ?_
     clear hA
     exact ⟨retv (by (refine congrArg vB (beq_iff_eq.2 ?_); omega)), hW.fr⟩))

end Go.Proofs.YtjegpelofdopmaaGreatDoor.L
