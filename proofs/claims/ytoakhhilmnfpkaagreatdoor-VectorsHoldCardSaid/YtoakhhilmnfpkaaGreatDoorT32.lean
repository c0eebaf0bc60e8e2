/- Contracts, walked by program over the engine's laws. -/
import Derived.Test.YtoakhhilmnfpkaaGreatDoorProg
import Derived.Test.YtoakhhilmnfpkaaGreatDoorT31
namespace Go.Proofs.YtoakhhilmnfpkaaGreatDoor.L
open Go.RowKit
open Go.Value renaming int → vI, slice → vS, bool → vB, pointer → vP, func → vF, agg → vA, map → vM, tuple → vT

theorem newErr_no2 {l : List Event} (h : ¬ 4096 < l.length) : newErr l = 2 := by unfold newErr; rw [if_neg h]
theorem newErr_3 {l : List Event} (h : 4096 < l.length) : newErr l = 3 := by unfold newErr; rw [if_pos h]
set_option maxRecDepth 100000 in
theorem e_rnew (A_tr : Option Addr) (c_tr : Nat) (tr : List Event) (w : World) (hr_tr : RowAt w A_tr 9 enEvent tr) (hc_tr : tr.length ≤ c_tr) (hl : tr.length ≤ 4096) (hall : ∀ x ∈ tr, EvOk x) (had : ∀ x ∈ tr, (-9223372036854775808 ≤ x.kind ∧ x.kind ≤ 9223372036854775807) ∧ 0 ≤ x.addr ∧ x.addr ≤ 4294967295) : Calls Tryz.prog 13 #[vS A_tr tr.length c_tr] w (fun e w' => ∃ B' : List BV, ∃ (A_oL : Option Addr) (c_oL : Nat), ∃ (A_oB : Option Addr) (c_oB : Nat), e = .returned (vT #[vA #[vS A_oL tr.length c_oL, vS A_oB B'.length c_oB], vI .i64 0]) ∧ (B'.map BV.l = ahM tr) ∧ tr.length ≤ c_oL ∧ B'.length ≤ c_oB ∧ (∀ x_ ∈ (B'), capBV x_) ∧ (roR A_oL 9 enEvent tr).from_ [roR A_tr 9 enEvent tr] w w' ∧ (roR A_oB 1 enBV B').from_ [roR A_tr 9 enEvent tr] w w' ∧ (nestR innerBV B').from_ [roR A_tr 9 enEvent tr] w w' ∧ Fr No w w') := by
 have _hu := hc_tr; have _hv := hr_tr; clear _hu _hv
 have _hu := hl; clear _hu
 have _hu := hall; clear _hu
 have _hu := had; clear _hu
 refine enter_E 34 Tryz.func13 rfl rfl (by kernel_rfl) (L := [(0, vS A_tr tr.length c_tr)]) (by kernel_rfl) ?_
 intro ac hA
 have hW := Ws.start w No
 have hW := hW.arg hr_tr
 refine wr <| st_s hA (Runs.cells (fun b => pA b 0) #[vS none 0 0, vS none 0 0] 46 (fun _ => by kernel_rfl) hW ?_); clear hA ac hW; intro b1 w2 hW hb1 hfw2 ac hA
 refine st_p (vI .i64 0) hA ?_; clear hA ac; intro ac hA
 refine wn <| wp_seq <| wr <| st_p (vS A_tr tr.length c_tr) hA fun ac hA => st_p (vI .i64 (tr.length : Int)) hA fun ac hA => st_p (vB (decide ((tr.length : Int) > (4096 : Int)))) hA fun ac hA => wn <| wp_cond_split (t := decide ((tr.length : Int) > (4096 : Int))) (hA.eval (by kernel_rfl)) (fun h3 => ?_) (fun h3 => ?_)
 ·
  have h3 := of_decide_eq_true h3
  exfalso; clear hA hW; omega
 have h3 := of_decide_eq_false h3
 refine wp_skip <| thenN <| wr <| st_p (vA #[vS none 0 0, vS none 0 0]) hA ?_; clear hA ac; intro ac hA
 refine st_s hA (Runs.cells (fun b => pA b 0) #[vS none 0 0, vS none 0 0] 46 (fun _ => by kernel_rfl) hW ?_); clear hA ac hW; intro b5 w6 hW hb5 hfw6 ac hA
 refine st_s hA (Runs.store (v := vA #[vS none 0 0, vS none 0 0]) (b := b5) (j := 0) (n := 2) (cs' := #[vS none 0 0, vS none 0 0]) (H' := [Cel b5 #[vS none 0 0, vS none 0 0] 46, Cel b1 #[vS none 0 0, vS none 0 0] 46]) (by kernel_rfl) (by kernel_rfl) (by kernel_rfl) (by kernel_rfl) (by kernel_rfl) hW 0 (by rfl) (Nat.le_of_ble_eq_true (by kernel_rfl)) (by kernel_rfl) (by rfl) ?_); clear hA ac hW; intro w7 hW ac hA
 refine wn <| wp_seq <| wr <| st_p (vI .i64 0) hA ?_; clear hA ac; intro ac hA
 refine wn <| wp_block ?_
 have hW := hW.addG (roR none 9 enEvent ([] : List Event)) (.inl rfl) (by simp [roR]) (by simp [roR])
 have hW := hW.addG (roR none 1 enBV ([] : List BV)) (.inl rfl) (by simp [roR]) (by simp [roR])
 have hsnL : Res.src (roR none 9 enEvent ([] : List Event)) [roR A_tr 9 enEvent tr] w := src_nil
 have hsnB : Res.src (roR none 1 enBV ([] : List BV)) [roR A_tr 9 enEvent tr] w := src_nil
 have hc_nL : ([] : List Event).length ≤ 0 := by simp
 have hc_nB : ([] : List BV).length ≤ 0 := by simp
 have hW := hW.nestNil innerBV
 have hknq8 : ∀ x_ ∈ ([] : List BV), capBV x_ := all_nil
 have hsnq8 : Res.src (nestR innerBV ([] : List BV)) [roR A_tr 9 enEvent tr] w := nsrc_nil
 refine wp_loop_m (fun m_ ac_ wl_ => ∃ k : Nat, ∃ L : List Event, ∃ AL : Option Addr, ∃ cL : Nat, ∃ B : List BV, ∃ AB : Option Addr, ∃ cB : Nat, m_ = tr.length - k ∧ (k ≤ tr.length) ∧ (L = tr.take k) ∧ (B.map BV.l = ahM L) ∧ (L.length ≤ cL) ∧ (B.length ≤ cB) ∧ (∀ x_ ∈ B, capBV x_) ∧ (Res.src (roR AL 9 enEvent L) [roR A_tr 9 enEvent tr] w) ∧ (Res.src (roR AB 1 enBV B) [roR A_tr 9 enEvent tr] w) ∧ (Res.src (nestR innerBV B) [roR A_tr 9 enEvent tr] w) ∧ Fm 34 [] [(0, vS A_tr tr.length c_tr), (2, pA b1 0), (4, pA b5 0), (5, vI .i64 (k : Int))] ac_ ∧ Ws w No [Cel b5 #[vS AL L.length cL, vS AB B.length cB] 46, Cel b1 #[vS none 0 0, vS none 0 0] 46] [roR AL 9 enEvent L, roR AB 1 enBV B, nestR innerBV B, roR A_tr 9 enEvent tr] wl_) _ ⟨0, ([] : List Event), none, 0, ([] : List BV), none, 0, rfl, by omega, by rfl, by rfl, by simp, by simp, by exact all_nil, by exact hsnL, by exact hsnB, by exact nsrc_nil, hA.sub (by and_intros <;> first | kernel_rfl | trivial), (hW.pick [0, 1] (by decide) rfl).pickG [2, 1, 0, 3] rfl⟩ ?_
 clear hA ac hW; rintro m_ ac w9 ⟨k, L, AL, cL, B, AB, cB, rfl, hk, hE_, hB_, hcL_, hcB_, hkB_, hsgL, hsgB, hsN_, hA, hW⟩
 have hll_ : L.length = k := by rw [hE_, List.length_take]; omega
 have hev_ : ∀ e ∈ L, EvOk e := fun e he => hall e (List.mem_of_mem_take (by rw [hE_] at he; exact he))
 refine wp_seq <| wr <| st_p (vI .i64 (k : Int)) hA fun ac hA => st_p (vS A_tr tr.length c_tr) hA fun ac hA => st_p (vI .i64 (tr.length : Int)) hA fun ac hA => st_p (vB (decide ((k : Int) < (tr.length : Int)))) hA fun ac hA => wn <| wp_cond_split (t := decide ((k : Int) < (tr.length : Int))) (hA.eval (by kernel_rfl)) (fun h10 => ?_) (fun h10 => ?_)
 ·
  have h10 := of_decide_eq_true h10
  refine wp_skip <| thenN <| wp_seq <| wp_block <| wp_seq ?_
  obtain ⟨y11, hy11⟩ : ∃ y, tr[k]? = some y := ⟨_, List.getElem?_eq_getElem (by omega)⟩
  obtain ⟨b12, o13, rfl, hbb12⟩ := row_some ((hW).getG 3 rfl) hy11
  refine wp_cut (fun ac_ wl_ => ∃ AoBr7_5 : Option Addr, ∃ AoLr7_5 : Option Addr, ∃ br7_9 : Nat, ∃ coBr7_5 : Nat, ∃ coLr7_5 : Nat, ∃ g0r7_5 : Int, ∃ g1r7_5 : List Event, ∃ g2r7_5 : List BV, (g2r7_5.length ≤ coBr7_5) ∧ (g1r7_5.length ≤ coLr7_5) ∧ (∀ x_ ∈ g2r7_5, capBV x_) ∧ (g2r7_5.map BV.l = ahM g1r7_5) ∧ ((g0r7_5, g1r7_5) = addE L y11) ∧ (Res.src (roR AoBr7_5 1 enBV g2r7_5) [roR (some ⟨b12, o13, none⟩) 9 enEvent tr] w) ∧ (Res.src (roR AoLr7_5 9 enEvent g1r7_5) [roR (some ⟨b12, o13, none⟩) 9 enEvent tr] w) ∧ (Res.src (nestR innerBV g2r7_5) [roR (some ⟨b12, o13, none⟩) 9 enEvent tr] w) ∧ Fm 34 [] [(0, vS (some ⟨b12, o13, none⟩) tr.length c_tr), (2, pA b1 0), (4, pA b5 0), (5, vI .i64 (k : Int)), (6, pA br7_9 0), (7, vI .i64 g0r7_5), (13, vI .i64 (k : Int)), (14, vS (some ⟨b12, o13, none⟩) tr.length c_tr), (15, vI .i64 (tr.length : Int)), (16, vB (decide ((k : Int) < (tr.length : Int))))] ac_ ∧ Ws w No [Cel br7_9 #[vS AoLr7_5 g1r7_5.length coLr7_5, vS AoBr7_5 g2r7_5.length coBr7_5] 46, Cel b5 #[vS AL L.length cL, vS AB B.length cB] 46, Cel b1 #[vS none 0 0, vS none 0 0] 46] [nestR innerBV g2r7_5, roR AoBr7_5 1 enBV g2r7_5, roR AoLr7_5 9 enEvent g1r7_5, roR AL 9 enEvent L, roR AB 1 enBV B, nestR innerBV B, roR (some ⟨b12, o13, none⟩) 9 enEvent tr] wl_) ?_ ?_
  · refine sr_region (m := 12) (C := Ws w No [Cel b5 #[vS AL L.length cL, vS AB B.length cB] 46, Cel b1 #[vS none 0 0, vS none 0 0] 46] [roR AL 9 enEvent L, roR AB 1 enBV B, nestR innerBV B, roR (some ⟨b12, o13, none⟩) 9 enEvent tr]) (fun i => [0, 4].contains i) (fun i => [0, 4, 9].contains i) (fun i => [1, 2, 3, 6, 7, 8, 11].contains i) (by kernel_rfl) (by kernel_rfl) (by kernel_rfl) (by kernel_rfl) hW ?_; clear hW; intro w14 hW hfw14 hR; have hC : Ws w No [Cel b5 #[vS AL L.length cL, vS AB B.length cB] 46, Cel b1 #[vS none 0 0, vS none 0 0] 46] [roR AL 9 enEvent L, roR AB 1 enBV B, nestR innerBV B, roR (some ⟨b12, o13, none⟩) 9 enEvent tr] w14 := hW.pick [0, 1] (by decide) rfl
    refine sr_t 0 (vA #[vS AL L.length cL, vS AB B.length cB]) hR rfl hA hC (Rd.load (b := b5) (i := 0) (by kernel_rfl) (fun _ hw => (hw).cel 0 rfl) (by kernel_rfl)) fun ac hA => sr_p 1 (vS (some ⟨b12, o13, none⟩) tr.length c_tr) hR rfl hA fun ac hA => sr_p 2 (vI .i64 (k : Int)) hR rfl hA fun ac hA => sr_q 3 (vP (some ⟨b12, o13 + k * 9, none⟩)) hR rfl hA (Rd.indexAddr (e := 43) (sz := 9) (b := b12) (off := o13) (n := tr.length) (c := c_tr) (k := k) (by kernel_rfl) (by kernel_rfl) (by first | omega | (simp; done) | (simp; omega)) (fun _ => by kernel_rfl) (fun _ => by kernel_rfl)) fun ac hA => sr_t 4 (vA #[vI .i64 y11.g, vI .i64 y11.kind, vI .i64 y11.site.f, vI .i64 y11.site.pc, vI .u32 y11.addr, vI .i64 y11.child, vI .i64 y11.obj, vI .i64 y11.n, vI .i64 y11.trap]) hR rfl hA hC (Rd.loadRow (b := b12) (i := o13 + k * 9) (xs := [vI .i64 y11.g, vI .i64 y11.kind, vI .i64 y11.site.f, vI .i64 y11.site.pc, vI .u32 y11.addr, vI .i64 y11.child, vI .i64 y11.obj, vI .i64 y11.n, vI .i64 y11.trap]) (by kernel_rfl) (fun _ hw => row_ld ((hw).getG 3 rfl) hy11 (Fr.refl No _) (fun h => h) 0 9 (by kernel_rfl)) (by kernel_rfl)) fun ac hA => sr_two (i := 5) (j := 9) (by kernel_rfl) ?_ ?_
    ·
     refine (sr_d rfl hA (Runs.call (fun _ => by kernel_rfl) (e_radd AL cL L AB cB B y11 w14 ((hW).getG 0 rfl) (by first | assumption | omega | (simp; omega) | simp) ((hW).getG 1 rfl) (by first | assumption | omega | (simp; omega) | simp) ((hW).getG 2 rfl) hkB_ (by first | omega | assumption | exact (had _ (List.mem_of_getElem? (by assumption))).1) (by first | omega | assumption | exact (had _ (List.mem_of_getElem? (by assumption))).1) (by first | omega | assumption | exact (had _ (List.mem_of_getElem? (by assumption))).1) (by first | omega | assumption | exact (had _ (List.mem_of_getElem? (by assumption))).1)) ?_))
     rintro _ w15 ⟨g0r7_5, g1r7_5, g2r7_5, AoLr7_5, coLr7_5, AoBr7_5, coBr7_5, rfl, hr7_5_hE, hr7_5_hB, hccoLr7_5, hccoBr7_5, hkcoBr7_5, hfcoLr7_5, hfcoBr7_5, hnfcoBr7_5, hfw15⟩; refine ⟨_, rfl, ?_⟩; have hW0 := hW; have hW := hW0.call hfw15
     have hW := hW0.addFromAt hW hfcoLr7_5 (in_cons (in_at 0 rfl) (in_cons (in_at 1 rfl) (in_cons (in_at 2 rfl) in_nil)))
     have hscoLr7_5 : Res.src (roR AoLr7_5 9 enEvent g1r7_5) [roR (some ⟨b12, o13, none⟩) 9 enEvent tr] w := src_call hfcoLr7_5 (srcs_cons hsgL (srcs_cons hsgB (srcs_cons hsN_ srcs_nil))) hW0.fr.size
     have hW := hW0.addFromAt hW hfcoBr7_5 (in_cons (in_at 0 rfl) (in_cons (in_at 1 rfl) (in_cons (in_at 2 rfl) in_nil)))
     have hscoBr7_5 : Res.src (roR AoBr7_5 1 enBV g2r7_5) [roR (some ⟨b12, o13, none⟩) 9 enEvent tr] w := src_call hfcoBr7_5 (srcs_cons hsgL (srcs_cons hsgB (srcs_cons hsN_ srcs_nil))) hW0.fr.size
     have hW := hW0.addFromAt hW hnfcoBr7_5 (in_cons (in_at 0 rfl) (in_cons (in_at 1 rfl) (in_cons (in_at 2 rfl) in_nil)))
     have hsncoBr7_5 : Res.src (nestR innerBV g2r7_5) [roR (some ⟨b12, o13, none⟩) 9 enEvent tr] w := src_call hnfcoBr7_5 (srcs_cons hsgL (srcs_cons hsgB (srcs_cons hsN_ srcs_nil))) hW0.fr.size
     clear hW0 hA ac; intro ac hA
     refine qn <| sr_p 6 (vT #[vA #[vS AoLr7_5 g1r7_5.length coLr7_5, vS AoBr7_5 g2r7_5.length coBr7_5], vI .i64 g0r7_5]) hR rfl hA fun ac hA => sr_p 7 (vA #[vS AoLr7_5 g1r7_5.length coLr7_5, vS AoBr7_5 g2r7_5.length coBr7_5]) hR rfl hA fun ac hA => sr_p 8 (vI .i64 g0r7_5) hR rfl hA fun ac hA => sr_one (i := 9) (by kernel_rfl) (sr_d rfl hA (Runs.cells (fun b => pA b 0) #[vS none 0 0, vS none 0 0] 46 (fun _ => by kernel_rfl) hW ?_)); clear hA ac hW; intro br7_9 w16 hW hbr7_9 hfw16 ac hA
     refine ⟨⟨fun _ => (hW.pick [1, 2] (by decide) rfl).pickG [3, 4, 5, 6] rfl, fun h => absurd h (by decide)⟩, ?_⟩; have hC : Ws w No [Cel b5 #[vS AL L.length cL, vS AB B.length cB] 46, Cel b1 #[vS none 0 0, vS none 0 0] 46] [roR AL 9 enEvent L, roR AB 1 enBV B, nestR innerBV B, roR (some ⟨b12, o13, none⟩) 9 enEvent tr] w16 := (hW.pick [1, 2] (by decide) rfl).pickG [3, 4, 5, 6] rfl
     refine sr_one (i := 10) (by kernel_rfl) (sr_d rfl hA (Runs.store (v := vA #[vS AoLr7_5 g1r7_5.length coLr7_5, vS AoBr7_5 g2r7_5.length coBr7_5]) (b := br7_9) (j := 0) (n := 2) (cs' := #[vS AoLr7_5 g1r7_5.length coLr7_5, vS AoBr7_5 g2r7_5.length coBr7_5]) (H' := [Cel br7_9 #[vS AoLr7_5 g1r7_5.length coLr7_5, vS AoBr7_5 g2r7_5.length coBr7_5] 46, Cel b5 #[vS AL L.length cL, vS AB B.length cB] 46, Cel b1 #[vS none 0 0, vS none 0 0] 46]) (by kernel_rfl) (by kernel_rfl) (by kernel_rfl) (by kernel_rfl) (by kernel_rfl) hW 0 (by rfl) (Nat.le_of_ble_eq_true (by kernel_rfl)) (by kernel_rfl) (by rfl) ?_)); clear hA ac hW; intro w17 hW ac hA
     refine qn <| sr_p 11 (vI .i64 g0r7_5) hR rfl hA ?_; clear hA ac; intro ac hA
     refine sr_done (by kernel_rfl) ?_ _
     exact ⟨AoBr7_5, AoLr7_5, br7_9, coBr7_5, coLr7_5, g0r7_5, g1r7_5, g2r7_5, hccoBr7_5, hccoLr7_5, hkcoBr7_5, hr7_5_hB, hr7_5_hE, hscoBr7_5, hscoLr7_5, hsncoBr7_5, hA.sub (by and_intros <;> first | kernel_rfl | trivial), (hW.pick [0, 1, 2] (by decide) rfl).pickG [0, 1, 2, 3, 4, 5, 6] rfl⟩
    ·
     refine (sr_d rfl hA (Runs.cells (fun b => pA b 0) #[vS none 0 0, vS none 0 0] 46 (fun _ => by kernel_rfl) hW ?_)); clear hA ac hW; intro br7_9 w18 hW hbr7_9 hfw18 ac hA
     refine ⟨⟨fun _ => (hW.pick [1, 2] (by decide) rfl).pickG [0, 1, 2, 3] rfl, fun h => absurd h (by decide)⟩, ?_⟩; have hC : Ws w No [Cel b5 #[vS AL L.length cL, vS AB B.length cB] 46, Cel b1 #[vS none 0 0, vS none 0 0] 46] [roR AL 9 enEvent L, roR AB 1 enBV B, nestR innerBV B, roR (some ⟨b12, o13, none⟩) 9 enEvent tr] w18 := (hW.pick [1, 2] (by decide) rfl).pickG [0, 1, 2, 3] rfl
     refine sr_one (i := 5) (by kernel_rfl) (sr_d rfl hA (Runs.call (fun _ => by kernel_rfl) (e_radd AL cL L AB cB B y11 w18 ((hW).getG 0 rfl) (by first | assumption | omega | (simp; omega) | simp) ((hW).getG 1 rfl) (by first | assumption | omega | (simp; omega) | simp) ((hW).getG 2 rfl) hkB_ (by first | omega | assumption | exact (had _ (List.mem_of_getElem? (by assumption))).1) (by first | omega | assumption | exact (had _ (List.mem_of_getElem? (by assumption))).1) (by first | omega | assumption | exact (had _ (List.mem_of_getElem? (by assumption))).1) (by first | omega | assumption | exact (had _ (List.mem_of_getElem? (by assumption))).1)) ?_))
     rintro _ w19 ⟨g0r7_5, g1r7_5, g2r7_5, AoLr7_5, coLr7_5, AoBr7_5, coBr7_5, rfl, hr7_5_hE, hr7_5_hB, hccoLr7_5, hccoBr7_5, hkcoBr7_5, hfcoLr7_5, hfcoBr7_5, hnfcoBr7_5, hfw19⟩; refine ⟨_, rfl, ?_⟩; have hW0 := hW; have hW := hW0.call hfw19
     have hW := hW0.addFromAt hW hfcoLr7_5 (in_cons (in_at 0 rfl) (in_cons (in_at 1 rfl) (in_cons (in_at 2 rfl) in_nil)))
     have hscoLr7_5 : Res.src (roR AoLr7_5 9 enEvent g1r7_5) [roR (some ⟨b12, o13, none⟩) 9 enEvent tr] w := src_call hfcoLr7_5 (srcs_cons hsgL (srcs_cons hsgB (srcs_cons hsN_ srcs_nil))) hW0.fr.size
     have hW := hW0.addFromAt hW hfcoBr7_5 (in_cons (in_at 0 rfl) (in_cons (in_at 1 rfl) (in_cons (in_at 2 rfl) in_nil)))
     have hscoBr7_5 : Res.src (roR AoBr7_5 1 enBV g2r7_5) [roR (some ⟨b12, o13, none⟩) 9 enEvent tr] w := src_call hfcoBr7_5 (srcs_cons hsgL (srcs_cons hsgB (srcs_cons hsN_ srcs_nil))) hW0.fr.size
     have hW := hW0.addFromAt hW hnfcoBr7_5 (in_cons (in_at 0 rfl) (in_cons (in_at 1 rfl) (in_cons (in_at 2 rfl) in_nil)))
     have hsncoBr7_5 : Res.src (nestR innerBV g2r7_5) [roR (some ⟨b12, o13, none⟩) 9 enEvent tr] w := src_call hnfcoBr7_5 (srcs_cons hsgL (srcs_cons hsgB (srcs_cons hsN_ srcs_nil))) hW0.fr.size
     clear hW0 hA ac; intro ac hA
     refine qn <| sr_p 6 (vT #[vA #[vS AoLr7_5 g1r7_5.length coLr7_5, vS AoBr7_5 g2r7_5.length coBr7_5], vI .i64 g0r7_5]) hR rfl hA fun ac hA => sr_p 7 (vA #[vS AoLr7_5 g1r7_5.length coLr7_5, vS AoBr7_5 g2r7_5.length coBr7_5]) hR rfl hA fun ac hA => sr_p 8 (vI .i64 g0r7_5) hR rfl hA fun ac hA => sr_one (i := 10) (by kernel_rfl) (sr_d rfl hA (Runs.store (v := vA #[vS AoLr7_5 g1r7_5.length coLr7_5, vS AoBr7_5 g2r7_5.length coBr7_5]) (b := br7_9) (j := 0) (n := 2) (cs' := #[vS AoLr7_5 g1r7_5.length coLr7_5, vS AoBr7_5 g2r7_5.length coBr7_5]) (H' := [Cel br7_9 #[vS AoLr7_5 g1r7_5.length coLr7_5, vS AoBr7_5 g2r7_5.length coBr7_5] 46, Cel b5 #[vS AL L.length cL, vS AB B.length cB] 46, Cel b1 #[vS none 0 0, vS none 0 0] 46]) (by kernel_rfl) (by kernel_rfl) (by kernel_rfl) (by kernel_rfl) (by kernel_rfl) hW 0 (by rfl) (Nat.le_of_ble_eq_true (by kernel_rfl)) (by kernel_rfl) (by rfl) ?_)); clear hA ac hW; intro w20 hW ac hA
     refine qn <| sr_p 11 (vI .i64 g0r7_5) hR rfl hA ?_; clear hA ac; intro ac hA
     refine sr_done (by kernel_rfl) ?_ _
     exact ⟨AoBr7_5, AoLr7_5, br7_9, coBr7_5, coLr7_5, g0r7_5, g1r7_5, g2r7_5, hccoBr7_5, hccoLr7_5, hkcoBr7_5, hr7_5_hB, hr7_5_hE, hscoBr7_5, hscoLr7_5, hsncoBr7_5, hA.sub (by and_intros <;> first | kernel_rfl | trivial), (hW.pick [0, 1, 2] (by decide) rfl).pickG [0, 1, 2, 3, 4, 5, 6] rfl⟩
  clear hA ac hW; rintro ac w21 ⟨AoBr7_5, AoLr7_5, br7_9, coBr7_5, coLr7_5, g0r7_5, g1r7_5, g2r7_5, hccoBr7_5, hccoLr7_5, hkcoBr7_5, hr7_5_hB, hr7_5_hE, hscoBr7_5, hscoLr7_5, hsncoBr7_5, hA, hW⟩
  refine thenN <| wp_seq <| wp_seq ?_
  have hxo_ := hall _ (List.mem_of_getElem? hy11)
  have q_ := hr7_5_hE.trans (addE_yes (by rw [hE_, List.length_take]; omega) hxo_).symm
  have her_ : g0r7_5 = 0 := congrArg Prod.fst q_
  have hEE_ : g1r7_5 = L ++ [y11] := congrArg Prod.snd q_
  refine wp_region_lit <| st_p (vI .i64 g0r7_5) hA fun ac hA => st_p (vB ((g0r7_5 : Int) != (0 : Int))) hA fun ac hA => wn <| wp_cond_split (t := (g0r7_5 : Int) != (0 : Int)) (hA.eval (by kernel_rfl)) (fun h22 => ?_) (fun h22 => ?_)
  ·
   have h22 := bne_iff_ne.1 h22
   exfalso; clear hA hW; omega
  have h22 := of_bne_f h22
  refine wp_skip <| thenN <| wp_region_lit <| st_q (vA #[vS AoLr7_5 g1r7_5.length coLr7_5, vS AoBr7_5 g2r7_5.length coBr7_5]) hA hW.cls (rl br7_9 0 0) ?_; clear hA ac; intro ac hA
  refine st_s hA (Runs.store (v := vA #[vS AoLr7_5 g1r7_5.length coLr7_5, vS AoBr7_5 g2r7_5.length coBr7_5]) (b := b5) (j := 0) (n := 2) (cs' := #[vS AoLr7_5 g1r7_5.length coLr7_5, vS AoBr7_5 g2r7_5.length coBr7_5]) (H' := [Cel br7_9 #[vS AoLr7_5 g1r7_5.length coLr7_5, vS AoBr7_5 g2r7_5.length coBr7_5] 46, Cel b5 #[vS AoLr7_5 g1r7_5.length coLr7_5, vS AoBr7_5 g2r7_5.length coBr7_5] 46, Cel b1 #[vS none 0 0, vS none 0 0] 46]) (by kernel_rfl) (by kernel_rfl) (by kernel_rfl) (by kernel_rfl) (by kernel_rfl) hW 1 (by rfl) (Nat.le_of_ble_eq_true (by kernel_rfl)) (by kernel_rfl) (by rfl) ?_); clear hA ac hW; intro w24 hW ac hA
  refine wpList_nil <| blkN <| thenN <| wp_region_lit <| st_p (vI .i64 (k : Int)) hA fun ac hA => st_q (vI .i64 ((k + 1 : Nat) : Int)) hA hW.cls (Rd.pureE (v0 := vI .i64 (IntKind.i64.wrap ((k : Int) + 1))) (fun _ => by kernel_rfl) (congrArg (vI .i64) ((w_i64 (x := (k : Int) + 1) (by omega) (by omega)).trans (by omega)))) fun ac hA => st_p (vI .i64 ((k + 1 : Nat) : Int)) hA fun ac hA => wn ?_
  exact ⟨tr.length - (k + 1), by omega, k + 1, g1r7_5, AoLr7_5, coLr7_5, g2r7_5, AoBr7_5, coBr7_5, rfl, by omega, by rw [tk_snoc hy11, ← hE_]; exact hEE_, by exact hr7_5_hB, by assumption, by assumption, by exact hkcoBr7_5, by exact hscoLr7_5, by exact hscoBr7_5, by exact hsncoBr7_5, hA.sub (by and_intros <;> first | kernel_rfl | trivial), (hW.pick [1, 2] (by decide) rfl).pickG [2, 1, 0, 6] rfl⟩
 have h10 := of_decide_eq_false h10
 refine wp_exit <| thenX <| thenX <| blkX <| thenN <| wr <| st_q (vA #[vS AL L.length cL, vS AB B.length cB]) hA hW.cls (rl b5 0 0) ?_; clear hA ac; intro ac hA
 refine st_s hA (Runs.store (v := vA #[vS AL L.length cL, vS AB B.length cB]) (b := b1) (j := 0) (n := 2) (cs' := #[vS AL L.length cL, vS AB B.length cB]) (H' := [Cel b5 #[vS AL L.length cL, vS AB B.length cB] 46, Cel b1 #[vS AL L.length cL, vS AB B.length cB] 46]) (by kernel_rfl) (by kernel_rfl) (by kernel_rfl) (by kernel_rfl) (by kernel_rfl) hW 1 (by rfl) (Nat.le_of_ble_eq_true (by kernel_rfl)) (by kernel_rfl) (by rfl) ?_); clear hA ac hW; intro w25 hW ac hA
 refine st_p (vI .i64 0) hA ?_; clear hA ac; intro ac hA
 refine wn <| wp_ret <| ret2 (v1 := vA #[vS AL L.length cL, vS AB B.length cB]) (v2 := vI .i64 0) (by rfl) hA (Got.cell (b := b1) (i := 0) hA (by kernel_rfl) (by kernel_rfl) (hW.cel 1 rfl) (by kernel_rfl)) (Got.tmp hA (by kernel_rfl) (by kernel_rfl)) ?_
 clear hA
 have hET_ : L = tr := by rw [hE_, List.take_of_length_le (by omega)]
 subst hET_
 exact ⟨B, AL, cL, AB, cB, by first | rfl | (simp; done), by exact hB_, (by first | assumption | omega | (simp; omega) | simp), (by first | assumption | omega | (simp; omega) | simp), hkB_, (hW.outSrc 0 rfl hsgL), (hW.outSrc 1 rfl hsgB), (hW.outSrc 2 rfl hsN_), hW.fr⟩

end Go.Proofs.YtoakhhilmnfpkaaGreatDoor.L
