/- Contracts, walked by program over the engine's laws. -/
import Derived.Test.YtjegpelofdopmaaGreatDoorProg
import Derived.Test.YtjegpelofdopmaaGreatDoorT20
namespace Go.Proofs.YtjegpelofdopmaaGreatDoor.L
open Go.RowKit
open Go.Value renaming int → vI, slice → vS, bool → vB, pointer → vP, func → vF, agg → vA, map → vM, tuple → vT

set_option maxRecDepth 100000 in
theorem e_dnew (en : Int) (w : World) (hen : 1 ≤ en ∧ en ≤ 281474976710655) : Calls Tryz.prog 19 #[vI .u64 en] w (fun e w' => ∃ L' : List One4, ∃ (A_oL : Option Addr) (c_oL : Nat), ∃ (A_oQ : Option Addr) (c_oQ : Nat), e = .returned (vT #[vA #[vI .u64 en, vS A_oL L'.length c_oL, vS A_oQ (([] : List Thg4)).length c_oQ], vI .i64 0]) ∧ (DOk en 0 kst0 L' []) ∧ L'.length ≤ c_oL ∧ (([] : List Thg4)).length ≤ c_oQ ∧ (∀ x_ ∈ (L'), capOne4 x_) ∧ (∀ x_ ∈ (([] : List Thg4)), capThg4 x_) ∧ (roR A_oL 2 enOne4 L').from_ [] w w' ∧ (roR A_oQ 3 enThg4 ([] : List Thg4)).from_ [] w w' ∧ (nestR innerOne4 L').from_ [] w w' ∧ (nestR innerThg4 ([] : List Thg4)).from_ [] w w' ∧ Fr No w w') := by
 have _hu := hen; clear _hu
 refine enter_E 16 Tryz.func19 rfl rfl (by kernel_rfl) (L := [(0, vI .u64 en)]) (by kernel_rfl) ?_
 intro ac hA
 have hW := Ws.start w No
 refine wr <| st_s hA (Runs.cells (fun b => pA b 0) #[vI .u64 0, vS none 0 0, vS none 0 0] 61 (fun _ => by kernel_rfl) hW ?_); clear hA ac hW; intro b1 w2 hW hb1 hfw2 ac hA
 refine st_p (vI .i64 0) hA ?_; clear hA ac; intro ac hA
 refine wn <| wp_seq <| wr <| st_p (vI .u64 en) hA fun ac hA => st_p (vB (decide ((en : Int) < (1 : Int)))) hA fun ac hA => st_p (vB (decide ((en : Int) < (1 : Int)))) hA fun ac hA => ?_
 rcases Bool.eq_false_or_eq_true (decide ((en : Int) < (1 : Int))) with h3 | h3
 ·
  rw [h3] at hA
  have h3 := of_decide_eq_true h3
  exfalso; clear hA hW; omega
 rw [h3] at hA
 have h3 := of_decide_eq_false h3
 refine st_p (vI .u64 en) hA fun ac hA => st_p (vB (decide ((en : Int) > (281474976710655 : Int)))) hA fun ac hA => st_p (vB (decide ((en : Int) > (281474976710655 : Int)))) hA fun ac hA => wn <| wp_cond_split (t := decide ((en : Int) > (281474976710655 : Int))) (hA.eval (by kernel_rfl)) (fun h5 => ?_) (fun h5 => ?_)
 ·
  have h5 := of_decide_eq_true h5
  exfalso; clear hA hW; omega
 have h5 := of_decide_eq_false h5
 refine wp_skip <| thenN <| wr <| st_p (vI .u64 en) hA ?_; clear hA ac; intro ac hA
 refine st_s hA (Runs.cells (fun b => vS (some ⟨b, 0, none⟩) 1 1) #[vI .u64 1] 29 (fun _ => by kernel_rfl) hW ?_); clear hA ac hW; intro b7 w8 hW hb7 hfw8 ac hA
 refine st_p (vA #[vI .i64 0, vS (some ⟨b7, 0, none⟩) 1 1]) hA ?_; clear hA ac; intro ac hA
 refine st_s hA (Runs.cells (fun b => vS (some ⟨b, 0, none⟩) 1 1) #[vI .i64 0, vS (some ⟨b7, 0, none⟩) 1 1] 104 (fun _ => by kernel_rfl) hW ?_); clear hA ac hW; intro b9 w10 hW hb9 hfw10 ac hA
 refine st_p (vA #[vI .u64 en, vS (some ⟨b9, 0, none⟩) 1 1, vS none 0 0]) hA ?_; clear hA ac; intro ac hA
 refine st_s hA (Runs.store (v := vA #[vI .u64 en, vS (some ⟨b9, 0, none⟩) 1 1, vS none 0 0]) (b := b1) (j := 0) (n := 3) (cs' := #[vI .u64 en, vS (some ⟨b9, 0, none⟩) 1 1, vS none 0 0]) (H' := [Cel b9 #[vI .i64 0, vS (some ⟨b7, 0, none⟩) 1 1] 104, Cel b7 #[vI .u64 1] 29, Cel b1 #[vI .u64 en, vS (some ⟨b9, 0, none⟩) 1 1, vS none 0 0] 61]) (by kernel_rfl) (by kernel_rfl) (by kernel_rfl) (by kernel_rfl) (by kernel_rfl) hW 2 (by rfl) (Nat.le_of_ble_eq_true (by kernel_rfl)) (by kernel_rfl) (by rfl) ?_); clear hA ac hW; intro w11 hW ac hA
 refine st_p (vI .i64 0) hA ?_; clear hA ac; intro ac hA
 refine wn <| wp_ret <| ret2 (v1 := vA #[vI .u64 en, vS (some ⟨b9, 0, none⟩) 1 1, vS none 0 0]) (v2 := vI .i64 0) (by rfl) hA (Got.cell (b := b1) (i := 0) hA (by kernel_rfl) (by kernel_rfl) (hW.cel 2 rfl) (by kernel_rfl)) (Got.tmp hA (by kernel_rfl) (by kernel_rfl)) ?_
 clear hA
 have hW := hW.celRow (en := enU8) (H' := [Cel b9 #[vI .i64 0, vS (some ⟨b7, 0, none⟩) 1 1] 104, rowR 29 1 enU8 (vS (some ⟨b7, 0, none⟩) ([1] : List Int).length ([1] : List Int).length) ([1] : List Int), Cel b1 #[vI .u64 en, vS (some ⟨b9, 0, none⟩) 1 1, vS none 0 0] 61]) 1 rfl ([1] : List Int) (by rfl) elt_U8.len (show (1 : Nat) ≤ maxLen from by decide) rfl
 have hW := hW.nestNil innerOne4
 have hknq12 : ∀ x_ ∈ ([] : List One4), capOne4 x_ := all_nil
 have hsnq12 : Res.src (nestR innerOne4 ([] : List One4)) [] w := nsrc_nil
 have hsone : Res.src (roR (some ⟨b7, 0, none⟩) 1 enU8 ([1] : List Int)) [] w := fun b_ hb_ => .inr ((hW.may _ (List.mem_of_getElem? (i := 1) rfl) b_ (rowR_fp b_ hb_)).resolve_left (fun h_ => h_))
 have hW := hW.share 1 rfl (H' := [Cel b9 #[vI .i64 0, vS (some ⟨b7, 0, none⟩) 1 1] 104, Cel b1 #[vI .u64 en, vS (some ⟨b9, 0, none⟩) 1 1, vS none 0 0] 61]) rfl
 have hcq13 : ([1] : List Int).length ≤ 1 := (own_cap (E := 29) (sz := 1) (en := enU8) ((hW).getG 0 rfl))
 have hW := Ws.nestCons (inner := innerOne4) hW 1 rfl (⟨0, ([1] : List Int), (some ⟨b7, 0, none⟩), 1⟩ : One4) (rowR_at (E := 29) (hW.getG 0 rfl) elt_U8.len) (fun _ hb_ => ⟨_, List.mem_of_getElem? (i := 0) rfl, rowR_fp _ hb_⟩)
 have hknq14 : ∀ x_ ∈ ([(⟨0, ([1] : List Int), (some ⟨b7, 0, none⟩), 1⟩ : One4)] : List One4), capOne4 x_ := all_cons hcq13 hknq12
 have hsnq14 : Res.src (nestR innerOne4 ([(⟨0, ([1] : List Int), (some ⟨b7, 0, none⟩), 1⟩ : One4)] : List One4)) [] w := nsrc_cons hsone hsnq12
 have hW := hW.celRow (en := enOne4) (H' := [rowR 104 2 enOne4 (vS (some ⟨b9, 0, none⟩) ([(⟨0, ([1] : List Int), (some ⟨b7, 0, none⟩), 1⟩ : One4)] : List One4).length ([(⟨0, ([1] : List Int), (some ⟨b7, 0, none⟩), 1⟩ : One4)] : List One4).length) ([(⟨0, ([1] : List Int), (some ⟨b7, 0, none⟩), 1⟩ : One4)] : List One4), Cel b1 #[vI .u64 en, vS (some ⟨b9, 0, none⟩) 1 1, vS none 0 0] 61]) 0 rfl ([(⟨0, ([1] : List Int), (some ⟨b7, 0, none⟩), 1⟩ : One4)] : List One4) (by rfl) elt_One4.len (show (1 : Nat) ≤ maxLen from by decide) rfl
 have hW := hW.nestNil innerThg4
 have hknq15 : ∀ x_ ∈ ([] : List Thg4), capThg4 x_ := all_nil
 have hsnq15 : Res.src (nestR innerThg4 ([] : List Thg4)) [] w := nsrc_nil
 exact ⟨([(⟨0, ([1] : List Int), (some ⟨b7, 0, none⟩), 1⟩ : One4)] : List One4), (some ⟨b9, 0, none⟩), ([(⟨0, ([1] : List Int), (some ⟨b7, 0, none⟩), 1⟩ : One4)] : List One4).length, none, 0, by first | rfl | (simp; done), by exact DOk.start hen.1 hen.2 rfl rfl, (own_cap ((hW).get 0 rfl)), (by simp), hknq14, hknq15, (hW.outRow 0 rfl elt_One4.len (fun _ h => h)), from_nil, (hW.outSrc 1 rfl hsnq14), (hW.outSrc 0 rfl hsnq15), hW.fr⟩

set_option maxRecDepth 100000 in
theorem e_dnewB (en : Int) (w : World) (hbad : ¬ (1 ≤ en ∧ en ≤ 281474976710655)) (he : 0 ≤ en ∧ en ≤ 18446744073709551615) : Calls Tryz.prog 19 #[vI .u64 en] w (fun e w' => e = .returned (vT #[vA #[vI .u64 0, vS none 0 0, vS none 0 0], vI .i64 2]) ∧ Fr No w w') := by
 have _hu := hbad; clear _hu
 have _hu := he; clear _hu
 refine enter_E 16 Tryz.func19 rfl rfl (by kernel_rfl) (L := [(0, vI .u64 en)]) (by kernel_rfl) ?_
 intro ac hA
 have hW := Ws.start w No
 refine wr <| st_s hA (Runs.cells (fun b => pA b 0) #[vI .u64 0, vS none 0 0, vS none 0 0] 61 (fun _ => by kernel_rfl) hW ?_); clear hA ac hW; intro b1 w2 hW hb1 hfw2 ac hA
 refine st_p (vI .i64 0) hA ?_; clear hA ac; intro ac hA
 refine wn <| wp_seq <| wr <| st_p (vI .u64 en) hA fun ac hA => st_p (vB (decide ((en : Int) < (1 : Int)))) hA fun ac hA => st_p (vB (decide ((en : Int) < (1 : Int)))) hA fun ac hA => ?_
 rcases Bool.eq_false_or_eq_true (decide ((en : Int) < (1 : Int))) with h3 | h3
 ·
  rw [h3] at hA
  have h3 := of_decide_eq_true h3
  refine st_k hA fun ac hA => st_k hA fun ac hA => st_p (vB true) hA fun ac hA => wn <| wp_cond_true (hA.eval (by kernel_rfl)) <| wr <| st_p (vA #[vI .u64 0, vS none 0 0, vS none 0 0]) hA ?_; clear hA ac; intro ac hA
  refine st_s hA (Runs.store (v := vA #[vI .u64 0, vS none 0 0, vS none 0 0]) (b := b1) (j := 0) (n := 3) (cs' := #[vI .u64 0, vS none 0 0, vS none 0 0]) (H' := [Cel b1 #[vI .u64 0, vS none 0 0, vS none 0 0] 61]) (by kernel_rfl) (by kernel_rfl) (by kernel_rfl) (by kernel_rfl) (by kernel_rfl) hW 0 (by rfl) (Nat.le_of_ble_eq_true (by kernel_rfl)) (by kernel_rfl) (by rfl) ?_); clear hA ac hW; intro w4 hW ac hA
  refine st_p (vI .i64 2) hA ?_; clear hA ac; intro ac hA
  refine wn <| wp_ret <| thenR <| ret2 (v1 := vA #[vI .u64 0, vS none 0 0, vS none 0 0]) (v2 := vI .i64 2) (by rfl) hA (Got.cell (b := b1) (i := 0) hA (by kernel_rfl) (by kernel_rfl) (hW.cel 0 rfl) (by kernel_rfl)) (Got.tmp hA (by kernel_rfl) (by kernel_rfl)) ?_
  clear hA
  exact ⟨retv rfl, hW.fr⟩
 rw [h3] at hA
 have h3 := of_decide_eq_false h3
 refine st_p (vI .u64 en) hA fun ac hA => st_p (vB (decide ((en : Int) > (281474976710655 : Int)))) hA fun ac hA => st_p (vB (decide ((en : Int) > (281474976710655 : Int)))) hA fun ac hA => wn <| wp_cond_split (t := decide ((en : Int) > (281474976710655 : Int))) (hA.eval (by kernel_rfl)) (fun h5 => ?_) (fun h5 => ?_)
 ·
  have h5 := of_decide_eq_true h5
  refine wr <| st_p (vA #[vI .u64 0, vS none 0 0, vS none 0 0]) hA ?_; clear hA ac; intro ac hA
  refine st_s hA (Runs.store (v := vA #[vI .u64 0, vS none 0 0, vS none 0 0]) (b := b1) (j := 0) (n := 3) (cs' := #[vI .u64 0, vS none 0 0, vS none 0 0]) (H' := [Cel b1 #[vI .u64 0, vS none 0 0, vS none 0 0] 61]) (by kernel_rfl) (by kernel_rfl) (by kernel_rfl) (by kernel_rfl) (by kernel_rfl) hW 0 (by rfl) (Nat.le_of_ble_eq_true (by kernel_rfl)) (by kernel_rfl) (by rfl) ?_); clear hA ac hW; intro w6 hW ac hA
  refine st_p (vI .i64 2) hA ?_; clear hA ac; intro ac hA
  refine wn <| wp_ret <| thenR <| ret2 (v1 := vA #[vI .u64 0, vS none 0 0, vS none 0 0]) (v2 := vI .i64 2) (by rfl) hA (Got.cell (b := b1) (i := 0) hA (by kernel_rfl) (by kernel_rfl) (hW.cel 0 rfl) (by kernel_rfl)) (Got.tmp hA (by kernel_rfl) (by kernel_rfl)) ?_
  clear hA
  exact ⟨retv rfl, hW.fr⟩
 have h5 := of_decide_eq_false h5
 exfalso; clear hA hW; omega

set_option maxRecDepth 100000 in
theorem e_knewB (en : Int) (w : World) (hbad : ¬ (1 ≤ en ∧ en ≤ 281474976710655)) (he : 0 ≤ en ∧ en ≤ 18446744073709551615) : Calls Tryz.prog 9 #[vI .u64 en] w (fun e w' => e = .returned (vT #[vP none, vI .i64 2]) ∧ Fr No w w') := by
 have _hu := hbad; clear _hu
 have _hu := he; clear _hu
 refine enter_E 18 Tryz.func9 rfl rfl (by kernel_rfl) (L := [(0, vI .u64 en)]) (by kernel_rfl) ?_
 intro ac hA
 have hW := Ws.start w No
 refine wr <| st_p (vP none) hA fun ac hA => st_p (vI .i64 0) hA fun ac hA => wn <| wp_seq <| wr <| st_p (vI .u64 en) hA fun ac hA => st_p (vB (decide ((en : Int) < (1 : Int)))) hA fun ac hA => st_p (vB (decide ((en : Int) < (1 : Int)))) hA fun ac hA => ?_
 rcases Bool.eq_false_or_eq_true (decide ((en : Int) < (1 : Int))) with h1 | h1
 ·
  rw [h1] at hA
  have h1 := of_decide_eq_true h1
  refine st_k hA fun ac hA => st_k hA fun ac hA => st_p (vB true) hA fun ac hA => wn <| wp_cond_true (hA.eval (by kernel_rfl)) <| wr <| st_p (vP none) hA fun ac hA => st_p (vI .i64 2) hA fun ac hA => wn <| wp_ret <| thenR <| ret2 (v1 := vP none) (v2 := vI .i64 2) (by rfl) hA (Got.tmp hA (by kernel_rfl) (by kernel_rfl)) (Got.tmp hA (by kernel_rfl) (by kernel_rfl)) ?_
  clear hA
  exact ⟨retv rfl, hW.fr⟩
 rw [h1] at hA
 have h1 := of_decide_eq_false h1
 refine st_p (vI .u64 en) hA fun ac hA => st_p (vB (decide ((en : Int) > (281474976710655 : Int)))) hA fun ac hA => st_p (vB (decide ((en : Int) > (281474976710655 : Int)))) hA fun ac hA => wn <| wp_cond_split (t := decide ((en : Int) > (281474976710655 : Int))) (hA.eval (by kernel_rfl)) (fun h2 => ?_) (fun h2 => ?_)
 ·
  have h2 := of_decide_eq_true h2
  refine wr <| st_p (vP none) hA fun ac hA => st_p (vI .i64 2) hA fun ac hA => wn <| wp_ret <| thenR <| ret2 (v1 := vP none) (v2 := vI .i64 2) (by rfl) hA (Got.tmp hA (by kernel_rfl) (by kernel_rfl)) (Got.tmp hA (by kernel_rfl) (by kernel_rfl)) ?_
  clear hA
  exact ⟨retv rfl, hW.fr⟩
 have h2 := of_decide_eq_false h2
 exfalso; clear hA hW; omega

set_option maxRecDepth 100000 in
theorem e_kthing (m : Nat) (bg : Nat) (G : List (Int × SV)) (bt : Nat) (T : List (Thing × SV)) (en : Int) (ks : KSt) (nn : Nat) (k : Int) (o : Int) (w : World) (ho_c : (ClkR m bg G bt T en ks nn).p w) (hl_c : ∀ x_ ∈ (ClkR m bg G bt T en ks nn).fp, x_ < w.heap.size) (hok : ClkOk en nn ks G T) (hk : -9223372036854775808 ≤ k ∧ k ≤ 9223372036854775807) (ho : -9223372036854775808 ≤ o ∧ o ≤ 9223372036854775807) : Calls Tryz.prog 25 #[pA m 0, vI .i64 k, vI .i64 o] w (Fresh 29 1 enU8 (ks.t k o) w) := by
 have _hu := ho_c; have _hv := hl_c; clear _hu _hv
 have _hu := hok; clear _hu
 have _hu := hk; clear _hu
 have _hu := ho; clear _hu
 have he1_ := hok.e1; have he2_ := hok.e2
 refine enter_E 19 Tryz.func25 rfl rfl (by kernel_rfl) (L := [(0, pA m 0), (1, vI .i64 k), (2, vI .i64 o)]) (by kernel_rfl) ?_
 intro ac hA
 have hW := Ws.start w No
 have hW := hW.addG (ClkR m bg G bt T en ks nn) ho_c hl_c (by simp)
 have hW := hW.objG (L := [Cel m #[vM (some bg), vM (some bt), vI .u64 en] 77, mapR bg (fun a : Int => vI .i64 a) SV.v G, mapR bt Thing.v SV.v T, nestR innerSV (NV [] G T)]) ho_c hl_c
 clear ho_c hl_c
 refine wr <| st_p (vS none 0 0) hA ?_; clear hA ac; intro ac hA
 refine wn <| wp_seq <| wr <| st_p (pA m 0) hA ?_; clear hA ac; intro ac hA
 refine st_s hA (Runs.callN (v := vB false) (fun _ => by kernel_rfl) hW (e_knone m bg G bt T en ks nn w ((hW).getG 4 rfl) ((hW).glt _ (List.mem_of_getElem? (i := 4) rfl)) (by first | omega | assumption)) ?_); clear hA ac hW; intro w1 hW hfw1 ac hA
 refine wn <| wp_cond_false (hA.eval (by kernel_rfl)) <| wp_skip <| thenN <| wp_seq ?_
 obtain ⟨c2_l, c2_l_A, c2_l_c, hqc2⟩ : ∃ l A c, (look T (⟨k, o⟩ : Thing)).getD nilSV = (⟨l, A, c⟩ : SV) := ⟨_, _, _, rfl⟩
 have hmc2 : (⟨c2_l, c2_l_A, c2_l_c⟩ : SV) ∈ NV [] G T := hqc2 ▸ nv_t _
 have hW := Ws.nestAt (inner := innerSV) (x := ⟨c2_l, c2_l_A, c2_l_c⟩) hW 3 rfl hmc2
 replace hW : Ws w No [] [roR c2_l_A 1 enU8 c2_l, Cel m #[vM (some bg), vM (some bt), vI .u64 en] 77, mapR bg (fun a : Int => vI .i64 a) SV.v G, mapR bt Thing.v SV.v T, nestR innerSV (NV [] G T), ClkR m bg G bt T en ks nn] w1 := hW
 have hc_c2_l : c2_l.length ≤ c2_l_c := hok.cap _ hmc2
 have hbc2 : Bd ((nn : Int) + 1) c2_l := hok.bd _ hmc2
 have hblc2 := hbc2.1; have htrc2 : trimC c2_l = c2_l := hok.tr _ hmc2
 have hec2 : c2_l = ks.t k o := (congrArg SV.l hqc2).symm.trans (hok.t _ _)
 refine wp_region_lit <| st_p (pA m 0) hA fun ac hA => st_p (pA m 0) hA fun ac hA => st_p (pA m 0) hA fun ac hA => st_p (pA m 1) hA fun ac hA => st_q (vM (some bt)) hA hW.cls (Rd.load (b := m) (i := 1) (by kernel_rfl) (fun _ hw => show _ = _ from (hw.1).getG 1 rfl) (by kernel_rfl)) fun ac hA => st_p (vI .i64 k) hA fun ac hA => st_p (vI .i64 o) hA fun ac hA => st_p (vA #[vI .i64 k, vI .i64 o]) hA fun ac hA => st_q (vS c2_l_A c2_l.length c2_l_c) hA hW.cls ((Rd.lookup (k := 93) (e := 34) (ek := Thing.v) (ev := SV.v) (m := T) (z := vS none 0 0) (⟨k, o⟩ : Thing) false (by kernel_rfl) (by kernel_rfl) thingKey (by kernel_rfl) (fun _ => by kernel_rfl) (fun _ hw => (hw.1).getG 3 rfl)).cast (by have q_ := congrArg SV.v hqc2; revert q_; generalize look T (⟨k, o⟩ : Thing) = o_; intro q_; cases o_ <;> exact q_)) fun ac hA => st_s hA (Runs.callRow (E := 29) (sz := 1) (en := enU8) (l := (trimC c2_l)) (fun _ => by kernel_rfl) hW (e_vtrimR c2_l_A c2_l_c c2_l w1 ((hW).getG 0 rfl) (by first | assumption | omega | (simp; omega) | simp) (by first | omega | assumption)) ?_); clear hA ac hW; intro A4 c5 w3 hW hcc5 hfw3 ac hA
 refine st_p (vS A4 (trimC c2_l).length c5) hA ?_; clear hA ac; intro ac hA
 refine wn <| wp_ret <| r1 (vS A4 (trimC c2_l).length c5) hA ?_
 clear hA
 rw [show ks.t k o = trimC c2_l from by rw [← hec2, htrc2]]
 exact ⟨_, rfl, hW.fresh 0 rfl (fun _ h => h), hW.fr⟩

end Go.Proofs.YtjegpelofdopmaaGreatDoor.L
