/- Contracts, walked by program over the engine's laws. -/
import Derived.Test.YtefmglgejjaipaaGreatDoorProg
import Derived.Test.YtefmglgejjaipaaGreatDoorT17
namespace Go.Proofs.YtefmglgejjaipaaGreatDoor.L
open Go.RowKit
open Go.Value renaming int → vI, slice → vS, bool → vB, pointer → vP, func → vF, agg → vA, map → vM, tuple → vT

set_option maxRecDepth 100000 in
theorem e_rbefore (A_L : Option Addr) (c_L : Nat) (L : List Event) (A_B : Option Addr) (c_B : Nat) (B : List BV) (i : Int) (j : Int) (w : World) (hr_L : RowAt w A_L 9 enEvent L) (hc_L : L.length ≤ c_L) (hr_B : RowAt w A_B 1 enBV B) (hc_B : B.length ≤ c_B) (hn_B : (nestR innerBV B).p w) (hk_B : ∀ x_ ∈ B, capBV x_) (hL : L.length ≤ 4096) (hev : ∀ e ∈ L, EvOk e) (hB : B.map BV.l = ahM L) (hi : -9223372036854775808 ≤ i ∧ i ≤ 9223372036854775807) (hj : -9223372036854775808 ≤ j ∧ j ≤ 9223372036854775807) : Calls Tryz.prog 26 #[vA #[vS A_L L.length c_L, vS A_B B.length c_B], vI .i64 i, vI .i64 j] w (fun e w' => e = .returned (vB (befE L i j)) ∧ Fr No w w') := by
 have _hu := hc_L; have _hv := hr_L; clear _hu _hv
 have _hu := hc_B; have _hv := hr_B; clear _hu _hv
 have _hu := hk_B; have _hv := hn_B; clear _hu _hv
 have _hu := hL; clear _hu
 have _hu := hev; clear _hu
 have _hu := hB; clear _hu
 have _hu := hi; clear _hu
 have _hu := hj; clear _hu
 have hbl_ := ah_blen hB
 refine enter_E 31 Tryz.func26 rfl rfl (by kernel_rfl) (L := [(0, vA #[vS A_L L.length c_L, vS A_B B.length c_B]), (1, vI .i64 i), (2, vI .i64 j)]) (by kernel_rfl) ?_
 intro ac hA
 have hW := Ws.start w No
 have hW := hW.arg hr_L
 have hW := hW.arg hr_B
 have hW := hW.addG _ hn_B (nest_ltBV hn_B) (by simp)
 refine wr <| st_s hA (Runs.cells (fun b => pA b 0) #[vS A_L L.length c_L, vS A_B B.length c_B] 31 (fun _ => by kernel_rfl) hW ?_); clear hA ac hW; intro b1 w2 hW hb1 hfw2 ac hA
 refine st_p (vB false) hA ?_; clear hA ac; intro ac hA
 refine wn <| wr <| st_p (vI .i64 i) hA fun ac hA => st_p (vB (decide ((i : Int) ≥ (0 : Int)))) hA fun ac hA => st_p (vB (decide ((i : Int) ≥ (0 : Int)))) hA fun ac hA => ?_
 rcases Bool.eq_false_or_eq_true (decide ((i : Int) ≥ (0 : Int))) with h3 | h3
 ·
  rw [h3] at hA
  have h3 := of_decide_eq_true h3
  first
  | (exfalso; clear hA hW; omega)
  | (
   refine st_p (vI .i64 i) hA fun ac hA => st_p (vI .i64 j) hA fun ac hA => st_p (vB (decide ((i : Int) < (j : Int)))) hA fun ac hA => st_p (vB (decide ((i : Int) < (j : Int)))) hA fun ac hA => st_p (vB (decide ((i : Int) < (j : Int)))) hA fun ac hA => ?_
   rcases Bool.eq_false_or_eq_true (decide ((i : Int) < (j : Int))) with h4 | h4
   ·
    rw [h4] at hA
    have h4 := of_decide_eq_true h4
    first
    | (exfalso; clear hA hW; omega)
    | (
     refine st_p (vI .i64 j) hA fun ac hA => st_p (pA b1 0) hA fun ac hA => st_q (vS A_L L.length c_L) hA hW.cls (rl b1 0 0) fun ac hA => st_p (vI .i64 (L.length : Int)) hA fun ac hA => st_p (vB (decide ((j : Int) < (L.length : Int)))) hA fun ac hA => st_p (vB (decide ((j : Int) < (L.length : Int)))) hA fun ac hA => st_p (vB (decide ((j : Int) < (L.length : Int)))) hA fun ac hA => ?_
     rcases Bool.eq_false_or_eq_true (decide ((j : Int) < (L.length : Int))) with h5 | h5
     ·
      rw [h5] at hA
      have h5 := of_decide_eq_true h5
      first
      | (exfalso; clear hA hW; omega)
      | (
       refine st_p (pA b1 1) hA fun ac hA => st_q (vS A_B B.length c_B) hA hW.cls (rl b1 1 0) fun ac hA => st_p (vI .i64 j) hA fun ac hA => ?_
       obtain ⟨y6, hy6⟩ : ∃ y, B[Int.toNat (j)]? = some y := ⟨_, List.getElem?_eq_getElem (by first | omega | (simp; done) | (simp; omega) | (have := ah_len hB (by assumption); omega))⟩
       rcases y6 with ⟨y6_l, y6_l_A, y6_l_c⟩
       obtain ⟨b7, o8, rfl, hbb7⟩ := row_some ((hW).getG 1 rfl) hy6
       refine st_q (vP (some ⟨b7, o8 + (Int.toNat (j)) * 1, none⟩)) hA hW.cls (Rd.indexAddrI (e := 76) (sz := 1) (b := b7) (off := o8) (n := B.length) (c := c_B) (k := j) (by kernel_rfl) (by kernel_rfl) (by omega) (by first | omega | (simp; done) | (simp; omega) | (have := ah_len hB (by assumption); omega)) (fun _ => by kernel_rfl) (fun _ => by kernel_rfl)) ?_; clear hA ac; intro ac hA
       have hW := hW.nestAt 0 rfl (List.mem_of_getElem? hy6)
       have hc_y6_l : y6_l.length ≤ y6_l_c := hk_B _ (List.mem_of_getElem? hy6)
       replace hW : Ws w No [Cel b1 #[vS A_L L.length c_L, vS (some ⟨b7, o8, none⟩) B.length c_B] 31] [roR y6_l_A 1 enBo y6_l, nestR innerBV B, roR (some ⟨b7, o8, none⟩) 1 enBV B, roR A_L 9 enEvent L] w2 := hW
       refine st_q (vS y6_l_A y6_l.length y6_l_c) hA hW.cls (Rd.loadRow (b := b7) (i := o8 + (Int.toNat (j)) * 1) (xs := [vS y6_l_A y6_l.length y6_l_c]) (by kernel_rfl) (fun _ hw => row_ld ((hw.1).getG 2 rfl) hy6 (Fr.refl No _) (fun h => h) 0 1 (by kernel_rfl)) (by kernel_rfl)) fun ac hA => st_p (vI .i64 i) hA fun ac hA => ?_
       obtain ⟨y9, hy9⟩ : ∃ y, y6_l[Int.toNat (i)]? = some y := ⟨_, List.getElem?_eq_getElem (by first | omega | (simp; done) | (simp; omega) | (have := ah_len hB (by assumption); omega))⟩
       obtain ⟨b10, o11, rfl, hbb10⟩ := row_some ((hW).getG 0 rfl) hy9
       refine st_q (vP (some ⟨b10, o11 + (Int.toNat (i)) * 1, none⟩)) hA hW.cls (Rd.indexAddrI (e := 4) (sz := 1) (b := b10) (off := o11) (n := y6_l.length) (c := y6_l_c) (k := i) (by kernel_rfl) (by kernel_rfl) (by omega) (by first | omega | (simp; done) | (simp; omega) | (have := ah_len hB (by assumption); omega)) (fun _ => by kernel_rfl) (fun _ => by kernel_rfl)) fun ac hA => st_q (vB y9) hA hW.cls (Rd.loadRow (b := b10) (i := o11 + (Int.toNat (i)) * 1) (xs := [vB y9]) (by kernel_rfl) (fun _ hw => row_ld ((hw.1).getG 0 rfl) hy9 (Fr.refl No _) (fun h => h) 0 1 (by kernel_rfl)) (by kernel_rfl)) fun ac hA => st_p (vB y9) hA fun ac hA => st_p (vB y9) hA fun ac hA => wn <| wp_ret <| r1 (vB y9) hA ?_
       clear hA
       exact ⟨retv (congrArg vB (ah_el' hB (by omega) (by omega) hy6 hy9)), hW.fr⟩)
     rw [h5] at hA
     have h5 := of_decide_eq_false h5
     first
     | (exfalso; clear hA hW; omega)
     | (
      refine st_k hA fun ac hA => st_k hA fun ac hA => st_k hA fun ac hA => st_k hA fun ac hA => st_k hA fun ac hA => st_k hA fun ac hA => st_k hA fun ac hA => st_k hA fun ac hA => st_p (vB false) hA fun ac hA => st_p (vB false) hA fun ac hA => wn <| wp_ret <| r1 (vB false) hA ?_
      clear hA
      exact ⟨retv (congrArg vB (by unfold befE; rw [decide_eq_false (by omega)]; rfl)), hW.fr⟩))
   rw [h4] at hA
   have h4 := of_decide_eq_false h4
   first
   | (exfalso; clear hA hW; omega)
   | (
    refine st_k hA fun ac hA => st_k hA fun ac hA => st_k hA fun ac hA => st_k hA fun ac hA => st_k hA fun ac hA => st_p (vB false) hA fun ac hA => st_p (vB false) hA fun ac hA => st_k hA fun ac hA => st_k hA fun ac hA => st_k hA fun ac hA => st_k hA fun ac hA => st_k hA fun ac hA => st_k hA fun ac hA => st_k hA fun ac hA => st_k hA fun ac hA => st_p (vB false) hA fun ac hA => st_p (vB false) hA fun ac hA => wn <| wp_ret <| r1 (vB false) hA ?_
    clear hA
    exact ⟨retv (congrArg vB (by unfold befE; rw [decide_eq_false (by omega)]; rfl)), hW.fr⟩))
 rw [h3] at hA
 have h3 := of_decide_eq_false h3
 first
 | (exfalso; clear hA hW; omega)
 | (
  refine st_k hA fun ac hA => st_k hA fun ac hA => st_k hA fun ac hA => st_p (vB false) hA fun ac hA => st_p (vB false) hA fun ac hA => st_k hA fun ac hA => st_k hA fun ac hA => st_k hA fun ac hA => st_k hA fun ac hA => st_k hA fun ac hA => st_p (vB false) hA fun ac hA => st_p (vB false) hA fun ac hA => st_k hA fun ac hA => st_k hA fun ac hA => st_k hA fun ac hA => st_k hA fun ac hA => st_k hA fun ac hA => st_k hA fun ac hA => st_k hA fun ac hA => st_k hA fun ac hA => st_p (vB false) hA fun ac hA => st_p (vB false) hA fun ac hA => wn <| wp_ret <| r1 (vB false) hA ?_
  clear hA
  exact ⟨retv (congrArg vB (by unfold befE; rw [decide_eq_false (by omega)]; rfl)), hW.fr⟩)

set_option maxRecDepth 100000 in
theorem e_rapart (A_L : Option Addr) (c_L : Nat) (L : List Event) (A_B : Option Addr) (c_B : Nat) (B : List BV) (i : Int) (j : Int) (w : World) (hr_L : RowAt w A_L 9 enEvent L) (hc_L : L.length ≤ c_L) (hr_B : RowAt w A_B 1 enBV B) (hc_B : B.length ≤ c_B) (hn_B : (nestR innerBV B).p w) (hk_B : ∀ x_ ∈ B, capBV x_) (hL : L.length ≤ 4096) (hev : ∀ e ∈ L, EvOk e) (hB : B.map BV.l = ahM L) (hi : -9223372036854775808 ≤ i ∧ i ≤ 9223372036854775807) (hj : -9223372036854775808 ≤ j ∧ j ≤ 9223372036854775807) : Calls Tryz.prog 28 #[vA #[vS A_L L.length c_L, vS A_B B.length c_B], vI .i64 i, vI .i64 j] w (fun e w' => e = .returned (vB (apartE L i j)) ∧ Fr No w w') := by
 have _hu := hc_L; have _hv := hr_L; clear _hu _hv
 have _hu := hc_B; have _hv := hr_B; clear _hu _hv
 have _hu := hk_B; have _hv := hn_B; clear _hu _hv
 have _hu := hL; clear _hu
 have _hu := hev; clear _hu
 have _hu := hB; clear _hu
 have _hu := hi; clear _hu
 have _hu := hj; clear _hu
 have hbl_ := ah_blen hB
 refine enter_E 46 Tryz.func28 rfl rfl (by kernel_rfl) (L := [(0, vA #[vS A_L L.length c_L, vS A_B B.length c_B]), (1, vI .i64 i), (2, vI .i64 j)]) (by kernel_rfl) ?_
 intro ac hA
 have hW := Ws.start w No
 have hW := hW.arg hr_L
 have hW := hW.arg hr_B
 have hW := hW.addG _ hn_B (nest_ltBV hn_B) (by simp)
 refine wr <| st_s hA (Runs.cells (fun b => pA b 0) #[vS A_L L.length c_L, vS A_B B.length c_B] 31 (fun _ => by kernel_rfl) hW ?_); clear hA ac hW; intro b1 w2 hW hb1 hfw2 ac hA
 refine st_p (vB false) hA ?_; clear hA ac; intro ac hA
 refine wn <| wr <| st_p (vI .i64 i) hA fun ac hA => st_p (vB (decide ((i : Int) ≥ (0 : Int)))) hA fun ac hA => st_p (vB (decide ((i : Int) ≥ (0 : Int)))) hA fun ac hA => ?_
 rcases Bool.eq_false_or_eq_true (decide ((i : Int) ≥ (0 : Int))) with h3 | h3
 ·
  rw [h3] at hA
  have h3 := of_decide_eq_true h3
  first
  | (exfalso; clear hA hW; omega)
  | (
   refine st_p (vI .i64 j) hA fun ac hA => st_p (vB (decide ((j : Int) ≥ (0 : Int)))) hA fun ac hA => st_p (vB (decide ((j : Int) ≥ (0 : Int)))) hA fun ac hA => st_p (vB (decide ((j : Int) ≥ (0 : Int)))) hA fun ac hA => ?_
   rcases Bool.eq_false_or_eq_true (decide ((j : Int) ≥ (0 : Int))) with h4 | h4
   ·
    rw [h4] at hA
    have h4 := of_decide_eq_true h4
    first
    | (exfalso; clear hA hW; omega)
    | (
     refine st_p (vI .i64 i) hA fun ac hA => st_p (pA b1 0) hA fun ac hA => st_q (vS A_L L.length c_L) hA hW.cls (rl b1 0 0) fun ac hA => st_p (vI .i64 (L.length : Int)) hA fun ac hA => st_p (vB (decide ((i : Int) < (L.length : Int)))) hA fun ac hA => st_p (vB (decide ((i : Int) < (L.length : Int)))) hA fun ac hA => st_p (vB (decide ((i : Int) < (L.length : Int)))) hA fun ac hA => ?_
     rcases Bool.eq_false_or_eq_true (decide ((i : Int) < (L.length : Int))) with h5 | h5
     ·
      rw [h5] at hA
      have h5 := of_decide_eq_true h5
      first
      | (exfalso; clear hA hW; omega)
      | (
       refine st_p (vI .i64 j) hA fun ac hA => st_p (pA b1 0) hA fun ac hA => st_q (vS A_L L.length c_L) hA hW.cls (rl b1 0 0) fun ac hA => st_p (vI .i64 (L.length : Int)) hA fun ac hA => st_p (vB (decide ((j : Int) < (L.length : Int)))) hA fun ac hA => st_p (vB (decide ((j : Int) < (L.length : Int)))) hA fun ac hA => st_p (vB (decide ((j : Int) < (L.length : Int)))) hA fun ac hA => ?_
       rcases Bool.eq_false_or_eq_true (decide ((j : Int) < (L.length : Int))) with h6 | h6
       ·
        rw [h6] at hA
        have h6 := of_decide_eq_true h6
        first
        | (exfalso; clear hA hW; omega)
        | (
         refine st_p (vI .i64 i) hA fun ac hA => st_p (vI .i64 j) hA fun ac hA => st_p (vB ((i : Int) != (j : Int))) hA fun ac hA => st_p (vB ((i : Int) != (j : Int))) hA fun ac hA => st_p (vB ((i : Int) != (j : Int))) hA fun ac hA => ?_
         rcases Bool.eq_false_or_eq_true ((i : Int) != (j : Int)) with h7 | h7
         ·
          rw [h7] at hA
          have h7 := bne_iff_ne.1 h7
          first
          | (exfalso; clear hA hW; omega)
          | (
           refine st_q (vA #[vS A_L L.length c_L, vS A_B B.length c_B]) hA hW.cls (rl b1 0 0) fun ac hA => st_p (vI .i64 i) hA fun ac hA => st_p (vI .i64 j) hA fun ac hA => st_s hA (Runs.callN (v := vB (befE L (i) (j))) (fun _ => by kernel_rfl) hW (e_rbefore A_L c_L L A_B c_B B (i) (j) w2 ((hW).getG 2 rfl) (by first | assumption | omega | (simp; omega) | simp) ((hW).getG 1 rfl) (by first | assumption | omega | (simp; omega) | simp) ((hW).getG 0 rfl) hk_B (by first | omega | assumption | exact ⟨by omega, by omega⟩) (by first | omega | assumption | exact ⟨by omega, by omega⟩) (by first | omega | assumption | exact ⟨by omega, by omega⟩) (by first | omega | assumption | exact ⟨by omega, by omega⟩) (by first | omega | assumption | exact ⟨by omega, by omega⟩)) ?_); clear hA ac hW; intro w8 hW hfw8 ac hA
           refine st_p (vB (!(befE L (i) (j)))) hA fun ac hA => st_p (vB (!(befE L (i) (j)))) hA fun ac hA => st_p (vB (!(befE L (i) (j)))) hA fun ac hA => ?_
           rcases Bool.eq_false_or_eq_true (!(befE L (i) (j))) with h9 | h9
           ·
            rw [h9] at hA
            have h9 := not_t h9
            first
            | (exfalso; clear hA hW; omega)
            | (
             refine st_q (vA #[vS A_L L.length c_L, vS A_B B.length c_B]) hA hW.cls (rl b1 0 0) fun ac hA => st_p (vI .i64 j) hA fun ac hA => st_p (vI .i64 i) hA fun ac hA => st_s hA (Runs.callN (v := vB (befE L (j) (i))) (fun _ => by kernel_rfl) hW (e_rbefore A_L c_L L A_B c_B B (j) (i) w8 ((hW).getG 2 rfl) (by first | assumption | omega | (simp; omega) | simp) ((hW).getG 1 rfl) (by first | assumption | omega | (simp; omega) | simp) ((hW).getG 0 rfl) hk_B (by first | omega | assumption | exact ⟨by omega, by omega⟩) (by first | omega | assumption | exact ⟨by omega, by omega⟩) (by first | omega | assumption | exact ⟨by omega, by omega⟩) (by first | omega | assumption | exact ⟨by omega, by omega⟩) (by first | omega | assumption | exact ⟨by omega, by omega⟩)) ?_); clear hA ac hW; intro w10 hW hfw10 ac hA
             refine st_p (vB (!(befE L (j) (i)))) hA fun ac hA => st_p (vB (!(befE L (j) (i)))) hA fun ac hA => st_p (vB (!(befE L (j) (i)))) hA fun ac hA => wn <| wp_ret <| r1 (vB (!(befE L (j) (i)))) hA ?_
             clear hA
             exact ⟨retv (congrArg vB (by unfold apartE; rw [decide_eq_true (by omega)]; rw [h9]; rfl)), hW.fr⟩)
           rw [h9] at hA
           have h9 := not_f h9
           first
           | (exfalso; clear hA hW; omega)
           | (
            refine st_k hA fun ac hA => st_k hA fun ac hA => st_k hA fun ac hA => st_k hA fun ac hA => st_k hA fun ac hA => st_p (vB false) hA fun ac hA => st_p (vB false) hA fun ac hA => wn <| wp_ret <| r1 (vB false) hA ?_
            clear hA
            exact ⟨retv (congrArg vB (by unfold apartE; rw [h9]; simp)), hW.fr⟩))
         rw [h7] at hA
         have h7 := of_bne_f h7
         first
         | (exfalso; clear hA hW; omega)
         | (
          refine st_k hA fun ac hA => st_k hA fun ac hA => st_k hA fun ac hA => st_k hA fun ac hA => st_k hA fun ac hA => st_p (vB false) hA fun ac hA => st_p (vB false) hA fun ac hA => st_k hA fun ac hA => st_k hA fun ac hA => st_k hA fun ac hA => st_k hA fun ac hA => st_k hA fun ac hA => st_p (vB false) hA fun ac hA => st_p (vB false) hA fun ac hA => wn <| wp_ret <| r1 (vB false) hA ?_
          clear hA
          exact ⟨retv (congrArg vB (by unfold apartE; rw [decide_eq_false (by omega)]; rfl)), hW.fr⟩))
       rw [h6] at hA
       have h6 := of_decide_eq_false h6
       first
       | (exfalso; clear hA hW; omega)
       | (
        refine st_k hA fun ac hA => st_k hA fun ac hA => st_k hA fun ac hA => st_p (vB false) hA fun ac hA => st_p (vB false) hA fun ac hA => st_k hA fun ac hA => st_k hA fun ac hA => st_k hA fun ac hA => st_k hA fun ac hA => st_k hA fun ac hA => st_p (vB false) hA fun ac hA => st_p (vB false) hA fun ac hA => st_k hA fun ac hA => st_k hA fun ac hA => st_k hA fun ac hA => st_k hA fun ac hA => st_k hA fun ac hA => st_p (vB false) hA fun ac hA => st_p (vB false) hA fun ac hA => wn <| wp_ret <| r1 (vB false) hA ?_
        clear hA
        exact ⟨retv (congrArg vB (by unfold apartE; rw [decide_eq_false (by omega)]; rfl)), hW.fr⟩))
     rw [h5] at hA
     have h5 := of_decide_eq_false h5
     first
     | (exfalso; clear hA hW; omega)
     | (
      refine st_k hA fun ac hA => st_k hA fun ac hA => st_k hA fun ac hA => st_k hA fun ac hA => st_k hA fun ac hA => st_p (vB false) hA fun ac hA => st_p (vB false) hA fun ac hA => st_k hA fun ac hA => st_k hA fun ac hA => st_k hA fun ac hA => st_p (vB false) hA fun ac hA => st_p (vB false) hA fun ac hA => st_k hA fun ac hA => st_k hA fun ac hA => st_k hA fun ac hA => st_k hA fun ac hA => st_k hA fun ac hA => st_p (vB false) hA fun ac hA => st_p (vB false) hA fun ac hA => st_k hA fun ac hA => st_k hA fun ac hA => st_k hA fun ac hA => st_k hA fun ac hA => st_k hA fun ac hA => st_p (vB false) hA fun ac hA => st_p (vB false) hA fun ac hA => wn <| wp_ret <| r1 (vB false) hA ?_
      clear hA
      exact ⟨retv (congrArg vB (by unfold apartE; rw [decide_eq_false (by omega)]; rfl)), hW.fr⟩))
   rw [h4] at hA
   have h4 := of_decide_eq_false h4
   first
   | (exfalso; clear hA hW; omega)
   | (
    refine st_k hA fun ac hA => st_k hA fun ac hA => st_k hA fun ac hA => st_k hA fun ac hA => st_k hA fun ac hA => st_p (vB false) hA fun ac hA => st_p (vB false) hA fun ac hA => st_k hA fun ac hA => st_k hA fun ac hA => st_k hA fun ac hA => st_k hA fun ac hA => st_k hA fun ac hA => st_p (vB false) hA fun ac hA => st_p (vB false) hA fun ac hA => st_k hA fun ac hA => st_k hA fun ac hA => st_k hA fun ac hA => st_p (vB false) hA fun ac hA => st_p (vB false) hA fun ac hA => st_k hA fun ac hA => st_k hA fun ac hA => st_k hA fun ac hA => st_k hA fun ac hA => st_k hA fun ac hA => st_p (vB false) hA fun ac hA => st_p (vB false) hA fun ac hA => st_k hA fun ac hA => st_k hA fun ac hA => st_k hA fun ac hA => st_k hA fun ac hA => st_k hA fun ac hA => st_p (vB false) hA fun ac hA => st_p (vB false) hA fun ac hA => wn <| wp_ret <| r1 (vB false) hA ?_
    clear hA
    exact ⟨retv (congrArg vB (by unfold apartE; rw [decide_eq_false (by omega)]; rfl)), hW.fr⟩))
 rw [h3] at hA
 have h3 := of_decide_eq_false h3
 first
 | (exfalso; clear hA hW; omega)
 | (
  refine st_k hA fun ac hA => st_k hA fun ac hA => st_p (vB false) hA fun ac hA => st_p (vB false) hA fun ac hA => st_k hA fun ac hA => st_k hA fun ac hA => st_k hA fun ac hA => st_k hA fun ac hA => st_k hA fun ac hA => st_p (vB false) hA fun ac hA => st_p (vB false) hA fun ac hA => st_k hA fun ac hA => st_k hA fun ac hA => st_k hA fun ac hA => st_k hA fun ac hA => st_k hA fun ac hA => st_p (vB false) hA fun ac hA => st_p (vB false) hA fun ac hA => st_k hA fun ac hA => st_k hA fun ac hA => st_k hA fun ac hA => st_p (vB false) hA fun ac hA => st_p (vB false) hA fun ac hA => st_k hA fun ac hA => st_k hA fun ac hA => st_k hA fun ac hA => st_k hA fun ac hA => st_k hA fun ac hA => st_p (vB false) hA fun ac hA => st_p (vB false) hA fun ac hA => st_k hA fun ac hA => st_k hA fun ac hA => st_k hA fun ac hA => st_k hA fun ac hA => st_k hA fun ac hA => st_p (vB false) hA fun ac hA => st_p (vB false) hA fun ac hA => wn <| wp_ret <| r1 (vB false) hA ?_
  clear hA
  exact ⟨retv (congrArg vB (by unfold apartE; rw [decide_eq_false (by omega)]; rfl)), hW.fr⟩)

end Go.Proofs.YtefmglgejjaipaaGreatDoor.L
