/- Contracts, walked by program over the engine's laws. -/
import Derived.Test.YtjegpelofdopmaaGreatDoorProg
import Derived.Test.YtjegpelofdopmaaGreatDoorRelD24
namespace Go.Proofs.YtjegpelofdopmaaGreatDoor.L
open Go.RowKit
open Go.Value renaming int → vI, slice → vS, bool → vB, pointer → vP, func → vF, agg → vA, map → vM, tuple → vT

theorem with_cl {L : List One4} {g : Int} {u : One4} (h : ∀ y ∈ L, y.cl.length ≤ 65536) (hu : u.cl.length ≤ 65536) : ∀ y ∈ withL L g u, y.cl.length ≤ 65536 := fun y hy => by
  rcases with_mem hy with rfl | hy
  · exact hu
  · exact h y hy
theorem rel_cl {Q : List Thg4} {a o : Int} {u : Thg4} (h : ∀ y ∈ Q, y.cl.length ≤ 65536) (hu : u.cl.length ≤ 65536) : ∀ y ∈ relL Q a o u, y.cl.length ≤ 65536 := fun y hy => by
  rcases rel_mem hy with rfl | hy
  · exact hu
  · exact h y hy
theorem bd_vec {N : Int} {c : List Int} (h : Bd N c) (hN : N ≤ 281474976710655) : vecOk c = true := by
  unfold vecOk; rw [decide_eq_true h.1, Bool.true_and, List.all_eq_true]; intro n hn; have := h.2 n hn; unfold big48; simp; omega
set_option maxRecDepth 100000 in
theorem e_dfull (en : Int) (A_L : Option Addr) (c_L : Nat) (L : List One4) (A_Q : Option Addr) (c_Q : Nat) (Q : List Thg4) (ks : KSt) (nn : Nat) (g : Int) (w : World) (hr_L : RowAt w A_L 2 enOne4 L) (hc_L : L.length ≤ c_L) (hn_L : (nestR innerOne4 L).p w) (hk_L : ∀ x_ ∈ L, capOne4 x_) (hr_Q : RowAt w A_Q 3 enThg4 Q) (hc_Q : Q.length ≤ c_Q) (hn_Q : (nestR innerThg4 Q).p w) (hk_Q : ∀ x_ ∈ Q, capThg4 x_) (hok : DOk en nn ks L Q) (hnn : nn ≤ 4095) (hg : -9223372036854775808 ≤ g ∧ g ≤ 9223372036854775807) : Calls Tryz.prog 44 #[vA #[vI .u64 en, vS A_L L.length c_L, vS A_Q Q.length c_Q], vI .i64 g] w (fun e w' => e = .returned (vB (decide (fullK en ks g))) ∧ Fr No w w') := by
 have _hu := hc_L; have _hv := hr_L; clear _hu _hv
 have _hu := hk_L; have _hv := hn_L; clear _hu _hv
 have _hu := hc_Q; have _hv := hr_Q; clear _hu _hv
 have _hu := hk_Q; have _hv := hn_Q; clear _hu _hv
 have _hu := hok; clear _hu
 have _hu := hnn; clear _hu
 have _hu := hg; clear _hu
 have hnl_ := hok.nL; have hnq_ := hok.nQ; have hcl_ := hok.cL; have hcq_ := hok.cQ; have he1_ := hok.e1; have he2_ := hok.e2
 refine enter_E 19 Tryz.func44 rfl rfl (by kernel_rfl) (L := [(0, vA #[vI .u64 en, vS A_L L.length c_L, vS A_Q Q.length c_Q]), (1, vI .i64 g)]) (by kernel_rfl) ?_
 intro ac hA
 have hW := Ws.start w No
 have hW := hW.arg hr_L
 have hW := hW.addG _ hn_L (nest_ltOne4 hn_L) (by simp)
 have hW := hW.arg hr_Q
 have hW := hW.addG _ hn_Q (nest_ltThg4 hn_Q) (by simp)
 refine wr <| st_s hA (Runs.cells (fun b => pA b 0) #[vI .u64 en, vS A_L L.length c_L, vS A_Q Q.length c_Q] 61 (fun _ => by kernel_rfl) hW ?_); clear hA ac hW; intro b1 w2 hW hb1 hfw2 ac hA
 refine st_p (vB false) hA ?_; clear hA ac; intro ac hA
 refine wn <| wp_seq ?_
 rcases Bool.eq_false_or_eq_true (decide (0 ≤ atK L g)) with h3 | h3
 ·
  have h3 := of_decide_eq_true h3
  first
  | (exfalso; clear hA hW; omega)
  | (
   refine wp_cut (fun ac_ wl_ => ∃ Ar1_7 : Option Addr, ∃ cr1_7 : Nat, Fm 19 [] [(0, vA #[vI .u64 en, vS A_L L.length c_L, vS A_Q Q.length c_Q]), (4, vB (decide ((getC (trimC (ofK L (g))) (g) : Int) ≥ (en : Int))))] ac_ ∧ Ws w No [rowR 29 1 enU8 (vS Ar1_7 (trimC (ofK L (g))).length cr1_7) (trimC (ofK L (g))), Cel b1 #[vI .u64 en, vS A_L L.length c_L, vS A_Q Q.length c_Q] 61] [nestR innerThg4 Q, roR A_Q 3 enThg4 Q, nestR innerOne4 L, roR A_L 2 enOne4 L] wl_) ?_ ?_
   · refine sr_region (m := 15) (C := Ws w No [Cel b1 #[vI .u64 en, vS A_L L.length c_L, vS A_Q Q.length c_Q] 61] [nestR innerThg4 Q, roR A_Q 3 enThg4 Q, nestR innerOne4 L, roR A_L 2 enOne4 L]) (fun i => [0].contains i) (fun i => [0].contains i) (fun i => [1, 3, 4, 6, 8, 10, 12, 13, 14].contains i) (by kernel_rfl) (by kernel_rfl) (by kernel_rfl) (by kernel_rfl) hW ?_; clear hW; intro w4 hW hfw4 hR; have hC : Ws w No [Cel b1 #[vI .u64 en, vS A_L L.length c_L, vS A_Q Q.length c_Q] 61] [nestR innerThg4 Q, roR A_Q 3 enThg4 Q, nestR innerOne4 L, roR A_L 2 enOne4 L] w4 := hW.pick [0] (by decide) rfl
     refine sr_t 0 (vA #[vI .u64 en, vS A_L L.length c_L, vS A_Q Q.length c_Q]) hR rfl hA hC (Rd.load (b := b1) (i := 0) (by kernel_rfl) (fun _ hw => (hw).cel 0 rfl) (by kernel_rfl)) fun ac hA => sr_p 1 (vI .i64 g) hR rfl hA fun ac hA => sr_one (i := 2) (by kernel_rfl) (sr_d rfl hA (Runs.callN (v := vI .i64 (atK L (g))) (fun _ => by kernel_rfl) hW (e_kat (en) A_L c_L L A_Q c_Q Q (g) w4 ((hW).getG 3 rfl) (by first | assumption | omega | (simp; omega) | simp) ((hW).getG 2 rfl) hk_L ((hW).getG 1 rfl) (by first | assumption | omega | (simp; omega) | simp) ((hW).getG 0 rfl) hk_Q (by first | omega | assumption | exact ⟨by omega, by omega⟩ | (rw [hok.of]; have := (hok.gvb g).1.1; omega)) (by first | omega | assumption | exact ⟨by omega, by omega⟩ | (rw [hok.of]; have := (hok.gvb g).1.1; omega)) (by first | omega | assumption | exact ⟨by omega, by omega⟩ | (rw [hok.of]; have := (hok.gvb g).1.1; omega)) (by first | omega | assumption | exact ⟨by omega, by omega⟩ | (rw [hok.of]; have := (hok.gvb g).1.1; omega)) (by first | omega | assumption | exact ⟨by omega, by omega⟩ | (rw [hok.of]; have := (hok.gvb g).1.1; omega))) ?_)); clear hA ac hW; intro w5 hW hfw5 ac hA
     refine qn <| sr_p 3 (vB (decide ((atK L (g) : Int) ≥ (0 : Int)))) hR rfl hA fun ac hA => sr_p 4 (vB (decide ((atK L (g) : Int) ≥ (0 : Int)))) hR rfl hA fun ac hA => ?_
     rw [show (decide ((atK L (g) : Int) ≥ (0 : Int))) = true from decide_eq_true (by omega)] at hA
     refine sr_p 6 (vI .i64 g) hR rfl hA fun ac hA => sr_p 8 (vI .i64 g) hR rfl hA fun ac hA => sr_p 10 (pA b1 0) hR rfl hA fun ac hA => sr_two (i := 5) (j := 11) (by kernel_rfl) ?_ ?_
     ·
      refine (sr_d rfl hA (Runs.ofRd (v := vA #[vI .u64 en, vS A_L L.length c_L, vS A_Q Q.length c_Q]) (C' := Ws w No [Cel b1 #[vI .u64 en, vS A_L L.length c_L, vS A_Q Q.length c_Q] 61] [nestR innerThg4 Q, roR A_Q 3 enThg4 Q, nestR innerOne4 L, roR A_L 2 enOne4 L]) hW (Rd.load (b := b1) (i := 0) (by kernel_rfl) (fun _ hw => (hw).cel 0 rfl) (by kernel_rfl)) ?_)); clear hA ac; intro  ac hA
      refine qn <| sr_two (i := 7) (j := 11) (by kernel_rfl) ?_ ?_
      ·
       refine (sr_d rfl hA (Runs.callRow (E := 29) (sz := 1) (en := enU8) (l := (trimC (ofK L (g)))) (fun _ => by kernel_rfl) hW (e_kof4 (en) A_L c_L L A_Q c_Q Q (g) w5 ((hW).getG 3 rfl) (by first | assumption | omega | (simp; omega) | simp) ((hW).getG 2 rfl) hk_L ((hW).getG 1 rfl) (by first | assumption | omega | (simp; omega) | simp) ((hW).getG 0 rfl) hk_Q (by first | omega | assumption | exact ⟨by omega, by omega⟩ | (rw [hok.of]; have := (hok.gvb g).1.1; omega)) (by first | omega | assumption | exact ⟨by omega, by omega⟩ | (rw [hok.of]; have := (hok.gvb g).1.1; omega)) (by first | omega | assumption | exact ⟨by omega, by omega⟩ | (rw [hok.of]; have := (hok.gvb g).1.1; omega)) (by first | omega | assumption | exact ⟨by omega, by omega⟩ | (rw [hok.of]; have := (hok.gvb g).1.1; omega)) (by first | omega | assumption | exact ⟨by omega, by omega⟩ | (rw [hok.of]; have := (hok.gvb g).1.1; omega))) ?_)); clear hA ac hW; intro Ar1_7 cr1_7 w6 hW hccr1_7 hfw6 ac hA
       refine qn <| sr_two (i := 9) (j := 11) (by kernel_rfl) ?_ ?_
       ·
        refine (sr_d rfl hA (Runs.callN (v := vI .u64 (getC (trimC (ofK L (g))) (g))) (fun _ => by kernel_rfl) hW (e_r4get Ar1_7 cr1_7 (trimC (ofK L (g))) (g) w6 (rowR_at ((hW).get 0 rfl) elt_U8.len) (own_cap ((hW).get 0 rfl)) (by first | omega | assumption | exact ⟨by omega, by omega⟩ | (rw [hok.of]; have := (hok.gvb g).1.1; omega))) ?_)); clear hA ac hW; intro w7 hW hfw7 ac hA
        refine qn <| sr_one (i := 11) (by kernel_rfl) (sr_d rfl hA (Runs.ofRd (v := vI .u64 en) (C' := Ws w No [rowR 29 1 enU8 (vS Ar1_7 (trimC (ofK L (g))).length cr1_7) (trimC (ofK L (g))), Cel b1 #[vI .u64 en, vS A_L L.length c_L, vS A_Q Q.length c_Q] 61] [nestR innerThg4 Q, roR A_Q 3 enThg4 Q, nestR innerOne4 L, roR A_L 2 enOne4 L]) hW (Rd.load (b := b1) (i := 0) (by kernel_rfl) (fun _ hw => (hw).cel 1 rfl) (by kernel_rfl)) ?_)); clear hA ac; intro  ac hA
        refine qn <| sr_p 12 (vB (decide ((getC (trimC (ofK L (g))) (g) : Int) ≥ (en : Int)))) hR rfl hA fun ac hA => sr_p 13 (vB (decide ((getC (trimC (ofK L (g))) (g) : Int) ≥ (en : Int)))) hR rfl hA fun ac hA => sr_p 14 (vB (decide ((getC (trimC (ofK L (g))) (g) : Int) ≥ (en : Int)))) hR rfl hA fun ac hA => sr_done (by kernel_rfl) ?_ _
        exact ⟨Ar1_7, cr1_7, hA.sub ⟨⟨by kernel_rfl, by kernel_rfl⟩, ⟨by kernel_rfl, by kernel_rfl⟩, trivial⟩, (hW.pick [0, 1] (by decide) rfl).pickG [0, 1, 2, 3] rfl⟩
       ·
        refine (sr_d rfl hA (Runs.ofRd (v := vI .u64 en) (C' := Ws w No [rowR 29 1 enU8 (vS Ar1_7 (trimC (ofK L (g))).length cr1_7) (trimC (ofK L (g))), Cel b1 #[vI .u64 en, vS A_L L.length c_L, vS A_Q Q.length c_Q] 61] [nestR innerThg4 Q, roR A_Q 3 enThg4 Q, nestR innerOne4 L, roR A_L 2 enOne4 L]) hW (Rd.load (b := b1) (i := 0) (by kernel_rfl) (fun _ hw => (hw).cel 1 rfl) (by kernel_rfl)) ?_)); clear hA ac; intro  ac hA
        refine qn <| sr_one (i := 9) (by kernel_rfl) (sr_d rfl hA (Runs.callN (v := vI .u64 (getC (trimC (ofK L (g))) (g))) (fun _ => by kernel_rfl) hW (e_r4get Ar1_7 cr1_7 (trimC (ofK L (g))) (g) w6 (rowR_at ((hW).get 0 rfl) elt_U8.len) (own_cap ((hW).get 0 rfl)) (by first | omega | assumption | exact ⟨by omega, by omega⟩ | (rw [hok.of]; have := (hok.gvb g).1.1; omega))) ?_)); clear hA ac hW; intro w8 hW hfw8 ac hA
        refine qn <| sr_p 12 (vB (decide ((getC (trimC (ofK L (g))) (g) : Int) ≥ (en : Int)))) hR rfl hA fun ac hA => sr_p 13 (vB (decide ((getC (trimC (ofK L (g))) (g) : Int) ≥ (en : Int)))) hR rfl hA fun ac hA => sr_p 14 (vB (decide ((getC (trimC (ofK L (g))) (g) : Int) ≥ (en : Int)))) hR rfl hA fun ac hA => sr_done (by kernel_rfl) ?_ _
        exact ⟨Ar1_7, cr1_7, hA.sub ⟨⟨by kernel_rfl, by kernel_rfl⟩, ⟨by kernel_rfl, by kernel_rfl⟩, trivial⟩, (hW.pick [0, 1] (by decide) rfl).pickG [0, 1, 2, 3] rfl⟩
      ·
       refine (sr_d rfl hA (Runs.ofRd (v := vI .u64 en) (C' := Ws w No [Cel b1 #[vI .u64 en, vS A_L L.length c_L, vS A_Q Q.length c_Q] 61] [nestR innerThg4 Q, roR A_Q 3 enThg4 Q, nestR innerOne4 L, roR A_L 2 enOne4 L]) hW (Rd.load (b := b1) (i := 0) (by kernel_rfl) (fun _ hw => (hw).cel 0 rfl) (by kernel_rfl)) ?_)); clear hA ac; intro  ac hA
       refine qn <| sr_one (i := 7) (by kernel_rfl) (sr_d rfl hA (Runs.callRow (E := 29) (sz := 1) (en := enU8) (l := (trimC (ofK L (g)))) (fun _ => by kernel_rfl) hW (e_kof4 (en) A_L c_L L A_Q c_Q Q (g) w5 ((hW).getG 3 rfl) (by first | assumption | omega | (simp; omega) | simp) ((hW).getG 2 rfl) hk_L ((hW).getG 1 rfl) (by first | assumption | omega | (simp; omega) | simp) ((hW).getG 0 rfl) hk_Q (by first | omega | assumption | exact ⟨by omega, by omega⟩ | (rw [hok.of]; have := (hok.gvb g).1.1; omega)) (by first | omega | assumption | exact ⟨by omega, by omega⟩ | (rw [hok.of]; have := (hok.gvb g).1.1; omega)) (by first | omega | assumption | exact ⟨by omega, by omega⟩ | (rw [hok.of]; have := (hok.gvb g).1.1; omega)) (by first | omega | assumption | exact ⟨by omega, by omega⟩ | (rw [hok.of]; have := (hok.gvb g).1.1; omega)) (by first | omega | assumption | exact ⟨by omega, by omega⟩ | (rw [hok.of]; have := (hok.gvb g).1.1; omega))) ?_)); clear hA ac hW; intro Ar1_7 cr1_7 w9 hW hccr1_7 hfw9 ac hA
       refine qn <| sr_one (i := 9) (by kernel_rfl) (sr_d rfl hA (Runs.callN (v := vI .u64 (getC (trimC (ofK L (g))) (g))) (fun _ => by kernel_rfl) hW (e_r4get Ar1_7 cr1_7 (trimC (ofK L (g))) (g) w9 (rowR_at ((hW).get 0 rfl) elt_U8.len) (own_cap ((hW).get 0 rfl)) (by first | omega | assumption | exact ⟨by omega, by omega⟩ | (rw [hok.of]; have := (hok.gvb g).1.1; omega))) ?_)); clear hA ac hW; intro w10 hW hfw10 ac hA
       refine qn <| sr_p 12 (vB (decide ((getC (trimC (ofK L (g))) (g) : Int) ≥ (en : Int)))) hR rfl hA fun ac hA => sr_p 13 (vB (decide ((getC (trimC (ofK L (g))) (g) : Int) ≥ (en : Int)))) hR rfl hA fun ac hA => sr_p 14 (vB (decide ((getC (trimC (ofK L (g))) (g) : Int) ≥ (en : Int)))) hR rfl hA fun ac hA => sr_done (by kernel_rfl) ?_ _
       exact ⟨Ar1_7, cr1_7, hA.sub ⟨⟨by kernel_rfl, by kernel_rfl⟩, ⟨by kernel_rfl, by kernel_rfl⟩, trivial⟩, (hW.pick [0, 1] (by decide) rfl).pickG [0, 1, 2, 3] rfl⟩
     ·
      refine (sr_d rfl hA (Runs.ofRd (v := vI .u64 en) (C' := Ws w No [Cel b1 #[vI .u64 en, vS A_L L.length c_L, vS A_Q Q.length c_Q] 61] [nestR innerThg4 Q, roR A_Q 3 enThg4 Q, nestR innerOne4 L, roR A_L 2 enOne4 L]) hW (Rd.load (b := b1) (i := 0) (by kernel_rfl) (fun _ hw => (hw).cel 0 rfl) (by kernel_rfl)) ?_)); clear hA ac; intro  ac hA
      refine qn <| sr_one (i := 5) (by kernel_rfl) (sr_d rfl hA (Runs.ofRd (v := vA #[vI .u64 en, vS A_L L.length c_L, vS A_Q Q.length c_Q]) (C' := Ws w No [Cel b1 #[vI .u64 en, vS A_L L.length c_L, vS A_Q Q.length c_Q] 61] [nestR innerThg4 Q, roR A_Q 3 enThg4 Q, nestR innerOne4 L, roR A_L 2 enOne4 L]) hW (Rd.load (b := b1) (i := 0) (by kernel_rfl) (fun _ hw => (hw).cel 0 rfl) (by kernel_rfl)) ?_)); clear hA ac; intro  ac hA
      refine qn <| sr_one (i := 7) (by kernel_rfl) (sr_d rfl hA (Runs.callRow (E := 29) (sz := 1) (en := enU8) (l := (trimC (ofK L (g)))) (fun _ => by kernel_rfl) hW (e_kof4 (en) A_L c_L L A_Q c_Q Q (g) w5 ((hW).getG 3 rfl) (by first | assumption | omega | (simp; omega) | simp) ((hW).getG 2 rfl) hk_L ((hW).getG 1 rfl) (by first | assumption | omega | (simp; omega) | simp) ((hW).getG 0 rfl) hk_Q (by first | omega | assumption | exact ⟨by omega, by omega⟩ | (rw [hok.of]; have := (hok.gvb g).1.1; omega)) (by first | omega | assumption | exact ⟨by omega, by omega⟩ | (rw [hok.of]; have := (hok.gvb g).1.1; omega)) (by first | omega | assumption | exact ⟨by omega, by omega⟩ | (rw [hok.of]; have := (hok.gvb g).1.1; omega)) (by first | omega | assumption | exact ⟨by omega, by omega⟩ | (rw [hok.of]; have := (hok.gvb g).1.1; omega)) (by first | omega | assumption | exact ⟨by omega, by omega⟩ | (rw [hok.of]; have := (hok.gvb g).1.1; omega))) ?_)); clear hA ac hW; intro Ar1_7 cr1_7 w11 hW hccr1_7 hfw11 ac hA
      refine qn <| sr_one (i := 9) (by kernel_rfl) (sr_d rfl hA (Runs.callN (v := vI .u64 (getC (trimC (ofK L (g))) (g))) (fun _ => by kernel_rfl) hW (e_r4get Ar1_7 cr1_7 (trimC (ofK L (g))) (g) w11 (rowR_at ((hW).get 0 rfl) elt_U8.len) (own_cap ((hW).get 0 rfl)) (by first | omega | assumption | exact ⟨by omega, by omega⟩ | (rw [hok.of]; have := (hok.gvb g).1.1; omega))) ?_)); clear hA ac hW; intro w12 hW hfw12 ac hA
      refine qn <| sr_p 12 (vB (decide ((getC (trimC (ofK L (g))) (g) : Int) ≥ (en : Int)))) hR rfl hA fun ac hA => sr_p 13 (vB (decide ((getC (trimC (ofK L (g))) (g) : Int) ≥ (en : Int)))) hR rfl hA fun ac hA => sr_p 14 (vB (decide ((getC (trimC (ofK L (g))) (g) : Int) ≥ (en : Int)))) hR rfl hA fun ac hA => sr_done (by kernel_rfl) ?_ _
      exact ⟨Ar1_7, cr1_7, hA.sub ⟨⟨by kernel_rfl, by kernel_rfl⟩, ⟨by kernel_rfl, by kernel_rfl⟩, trivial⟩, (hW.pick [0, 1] (by decide) rfl).pickG [0, 1, 2, 3] rfl⟩
   clear hA ac hW; rintro ac w13 ⟨Ar1_7, cr1_7, hA, hW⟩
   refine thenN <| wp_ret <| r1 (vB (decide ((getC (trimC (ofK L (g))) (g) : Int) ≥ (en : Int)))) hA ?_
   clear hA
   exact ⟨retv (congrArg vB (by rw [hok.of, decide_eq_decide]; exact ⟨fun q_ => ⟨(hok.at' g).1 (by omega), q_⟩, fun q_ => q_.2⟩)), hW.fr⟩)
 have h3 := of_decide_eq_false h3
 first
 | (exfalso; clear hA hW; omega)
 | (
  refine wp_cut (fun ac_ wl_ => Fm 19 [] [(0, vA #[vI .u64 en, vS A_L L.length c_L, vS A_Q Q.length c_Q]), (4, vB false)] ac_ ∧ Ws w No [Cel b1 #[vI .u64 en, vS A_L L.length c_L, vS A_Q Q.length c_Q] 61] [nestR innerThg4 Q, roR A_Q 3 enThg4 Q, nestR innerOne4 L, roR A_L 2 enOne4 L] wl_) ?_ ?_
  · refine sr_region (m := 15) (C := Ws w No [Cel b1 #[vI .u64 en, vS A_L L.length c_L, vS A_Q Q.length c_Q] 61] [nestR innerThg4 Q, roR A_Q 3 enThg4 Q, nestR innerOne4 L, roR A_L 2 enOne4 L]) (fun i => [0].contains i) (fun i => [0].contains i) (fun i => [1, 3, 4, 6, 8, 10, 12, 13, 14].contains i) (by kernel_rfl) (by kernel_rfl) (by kernel_rfl) (by kernel_rfl) hW ?_; clear hW; intro w14 hW hfw14 hR; have hC : Ws w No [Cel b1 #[vI .u64 en, vS A_L L.length c_L, vS A_Q Q.length c_Q] 61] [nestR innerThg4 Q, roR A_Q 3 enThg4 Q, nestR innerOne4 L, roR A_L 2 enOne4 L] w14 := hW.pick [0] (by decide) rfl
    refine sr_t 0 (vA #[vI .u64 en, vS A_L L.length c_L, vS A_Q Q.length c_Q]) hR rfl hA hC (Rd.load (b := b1) (i := 0) (by kernel_rfl) (fun _ hw => (hw).cel 0 rfl) (by kernel_rfl)) fun ac hA => sr_p 1 (vI .i64 g) hR rfl hA fun ac hA => sr_one (i := 2) (by kernel_rfl) (sr_d rfl hA (Runs.callN (v := vI .i64 (atK L (g))) (fun _ => by kernel_rfl) hW (e_kat (en) A_L c_L L A_Q c_Q Q (g) w14 ((hW).getG 3 rfl) (by first | assumption | omega | (simp; omega) | simp) ((hW).getG 2 rfl) hk_L ((hW).getG 1 rfl) (by first | assumption | omega | (simp; omega) | simp) ((hW).getG 0 rfl) hk_Q (by first | omega | assumption | exact ⟨by omega, by omega⟩ | (rw [hok.of]; have := (hok.gvb g).1.1; omega)) (by first | omega | assumption | exact ⟨by omega, by omega⟩ | (rw [hok.of]; have := (hok.gvb g).1.1; omega)) (by first | omega | assumption | exact ⟨by omega, by omega⟩ | (rw [hok.of]; have := (hok.gvb g).1.1; omega)) (by first | omega | assumption | exact ⟨by omega, by omega⟩ | (rw [hok.of]; have := (hok.gvb g).1.1; omega)) (by first | omega | assumption | exact ⟨by omega, by omega⟩ | (rw [hok.of]; have := (hok.gvb g).1.1; omega))) ?_)); clear hA ac hW; intro w15 hW hfw15 ac hA
    refine qn <| sr_p 3 (vB (decide ((atK L (g) : Int) ≥ (0 : Int)))) hR rfl hA fun ac hA => sr_p 4 (vB (decide ((atK L (g) : Int) ≥ (0 : Int)))) hR rfl hA fun ac hA => ?_
    rw [show (decide ((atK L (g) : Int) ≥ (0 : Int))) = false from decide_eq_false (by omega)] at hA
    refine sr_s 6 hR rfl hA fun ac hA => sr_s 8 hR rfl hA fun ac hA => sr_s 10 hR rfl hA fun ac hA => sr_two (i := 5) (j := 11) (by kernel_rfl) ?_ ?_
    ·
     refine (sr_z rfl hA ?_); clear hA ac; intro ac hA
     refine qn <| sr_two (i := 7) (j := 11) (by kernel_rfl) ?_ ?_
     ·
      refine (sr_z rfl hA ?_); clear hA ac; intro ac hA
      refine qn <| sr_two (i := 9) (j := 11) (by kernel_rfl) ?_ ?_
      ·
       refine (sr_z rfl hA ?_); clear hA ac; intro ac hA
       refine qn <| sr_one (i := 11) (by kernel_rfl) (sr_z rfl hA ?_); clear hA ac; intro ac hA
       refine qn <| sr_s 12 hR rfl hA fun ac hA => sr_p 13 (vB false) hR rfl hA fun ac hA => sr_p 14 (vB false) hR rfl hA fun ac hA => sr_done (by kernel_rfl) ?_ _
       exact ⟨hA.sub ⟨⟨by kernel_rfl, by kernel_rfl⟩, ⟨by kernel_rfl, by kernel_rfl⟩, trivial⟩, (hW.pick [0] (by decide) rfl).pickG [0, 1, 2, 3] rfl⟩
      ·
       refine (sr_z rfl hA ?_); clear hA ac; intro ac hA
       refine qn <| sr_one (i := 9) (by kernel_rfl) (sr_z rfl hA ?_); clear hA ac; intro ac hA
       refine qn <| sr_s 12 hR rfl hA fun ac hA => sr_p 13 (vB false) hR rfl hA fun ac hA => sr_p 14 (vB false) hR rfl hA fun ac hA => sr_done (by kernel_rfl) ?_ _
       exact ⟨hA.sub ⟨⟨by kernel_rfl, by kernel_rfl⟩, ⟨by kernel_rfl, by kernel_rfl⟩, trivial⟩, (hW.pick [0] (by decide) rfl).pickG [0, 1, 2, 3] rfl⟩
     ·
      refine (sr_z rfl hA ?_); clear hA ac; intro ac hA
      refine qn <| sr_one (i := 7) (by kernel_rfl) (sr_z rfl hA ?_); clear hA ac; intro ac hA
      refine qn <| sr_one (i := 9) (by kernel_rfl) (sr_z rfl hA ?_); clear hA ac; intro ac hA
      refine qn <| sr_s 12 hR rfl hA fun ac hA => sr_p 13 (vB false) hR rfl hA fun ac hA => sr_p 14 (vB false) hR rfl hA fun ac hA => sr_done (by kernel_rfl) ?_ _
      exact ⟨hA.sub ⟨⟨by kernel_rfl, by kernel_rfl⟩, ⟨by kernel_rfl, by kernel_rfl⟩, trivial⟩, (hW.pick [0] (by decide) rfl).pickG [0, 1, 2, 3] rfl⟩
    ·
     refine (sr_z rfl hA ?_); clear hA ac; intro ac hA
     refine qn <| sr_one (i := 5) (by kernel_rfl) (sr_z rfl hA ?_); clear hA ac; intro ac hA
     refine qn <| sr_one (i := 7) (by kernel_rfl) (sr_z rfl hA ?_); clear hA ac; intro ac hA
     refine qn <| sr_one (i := 9) (by kernel_rfl) (sr_z rfl hA ?_); clear hA ac; intro ac hA
     refine qn <| sr_s 12 hR rfl hA fun ac hA => sr_p 13 (vB false) hR rfl hA fun ac hA => sr_p 14 (vB false) hR rfl hA fun ac hA => sr_done (by kernel_rfl) ?_ _
     exact ⟨hA.sub ⟨⟨by kernel_rfl, by kernel_rfl⟩, ⟨by kernel_rfl, by kernel_rfl⟩, trivial⟩, (hW.pick [0] (by decide) rfl).pickG [0, 1, 2, 3] rfl⟩
  clear hA ac hW; rintro ac w16 ⟨hA, hW⟩
  refine thenN <| wp_ret <| r1 (vB false) hA ?_
  clear hA
  exact ⟨retv (congrArg vB (decide_eq_false (fun h_ => h_.1 ((hok.at g).1 (by omega)))).symm), hW.fr⟩)

set_option maxRecDepth 100000 in
theorem e_r16rel (x : Event) (w : World)  : Calls Tryz.prog 13 #[x.v] w (fun e w' => e = .returned (vB (evRel x)) ∧ Fr No w w') := by
 refine enter_E 29 Tryz.func13 rfl rfl (by kernel_rfl) (L := [(0, x.v)]) (by kernel_rfl) ?_
 intro ac hA
 have hW := Ws.start w No
 refine wr <| st_s hA (Runs.cells (fun b => pA b 0) #[vI .i64 x.g, vI .i64 x.kind, vI .i64 x.site.f, vI .i64 x.site.pc, vI .u32 x.addr, vI .i64 x.child, vI .i64 x.obj, vI .i64 x.n, vI .i64 x.trap] 42 (fun _ => by kernel_rfl) hW ?_); clear hA ac hW; intro b1 w2 hW hb1 hfw2 ac hA
 refine st_p (vB false) hA ?_; clear hA ac; intro ac hA
 refine wn <| wr <| st_p (pA b1 1) hA fun ac hA => st_q (vI .i64 x.kind) hA hW.cls (rl b1 1 0) fun ac hA => st_p (vI .i64 x.kind) hA fun ac hA => wn <| wr <| st_p (vI .i64 x.kind) hA fun ac hA => st_p (vB ((x.kind : Int) == (4 : Int))) hA fun ac hA => st_p (vB ((x.kind : Int) == (4 : Int))) hA fun ac hA => ?_
 rcases Bool.eq_false_or_eq_true ((x.kind : Int) == (4 : Int)) with h3 | h3
 ·
  rw [h3] at hA
  have h3 := eq_of_beq h3
  first
  | (exfalso; clear hA hW; omega)
  | (
   refine st_k hA fun ac hA => st_k hA fun ac hA => st_p (vB true) hA fun ac hA => st_p (vB true) hA fun ac hA => st_k hA fun ac hA => st_k hA fun ac hA => st_p (vB true) hA fun ac hA => st_p (vB true) hA fun ac hA => st_k hA fun ac hA => st_k hA fun ac hA => st_p (vB true) hA fun ac hA => st_p (vB true) hA fun ac hA => st_k hA fun ac hA => st_k hA fun ac hA => st_k hA fun ac hA => st_k hA fun ac hA => st_k hA fun ac hA => st_k hA fun ac hA => st_k hA fun ac hA => st_p (vB true) hA fun ac hA => st_p (vB true) hA fun ac hA => wn <| wp_ret <| r1 (vB true) hA ?_
   clear hA
   exact ⟨retv (congrArg vB (decide_eq_true (by unfold EvRel; omega)).symm), hW.fr⟩)
 rw [h3] at hA
 have h3 := ne_of_beq_false h3
 first
 | (exfalso; clear hA hW; omega)
 | (
  refine st_p (vI .i64 x.kind) hA fun ac hA => st_p (vB ((x.kind : Int) == (6 : Int))) hA fun ac hA => st_p (vB ((x.kind : Int) == (6 : Int))) hA fun ac hA => st_p (vB ((x.kind : Int) == (6 : Int))) hA fun ac hA => ?_
  rcases Bool.eq_false_or_eq_true ((x.kind : Int) == (6 : Int)) with h4 | h4
  ·
   rw [h4] at hA
   have h4 := eq_of_beq h4
   first
   | (exfalso; clear hA hW; omega)
   | (
    refine st_k hA fun ac hA => st_k hA fun ac hA => st_p (vB true) hA fun ac hA => st_p (vB true) hA fun ac hA => st_k hA fun ac hA => st_k hA fun ac hA => st_p (vB true) hA fun ac hA => st_p (vB true) hA fun ac hA => st_k hA fun ac hA => st_k hA fun ac hA => st_k hA fun ac hA => st_k hA fun ac hA => st_k hA fun ac hA => st_k hA fun ac hA => st_k hA fun ac hA => st_p (vB true) hA fun ac hA => st_p (vB true) hA fun ac hA => wn <| wp_ret <| r1 (vB true) hA ?_
    clear hA
    exact ⟨retv (congrArg vB (decide_eq_true (by unfold EvRel; omega)).symm), hW.fr⟩)
  rw [h4] at hA
  have h4 := ne_of_beq_false h4
  first
  | (exfalso; clear hA hW; omega)
  | (
   refine st_p (vI .i64 x.kind) hA fun ac hA => st_p (vB ((x.kind : Int) == (8 : Int))) hA fun ac hA => st_p (vB ((x.kind : Int) == (8 : Int))) hA fun ac hA => st_p (vB ((x.kind : Int) == (8 : Int))) hA fun ac hA => ?_
   rcases Bool.eq_false_or_eq_true ((x.kind : Int) == (8 : Int)) with h5 | h5
   ·
    rw [h5] at hA
    have h5 := eq_of_beq h5
    first
    | (exfalso; clear hA hW; omega)
    | (
     refine st_k hA fun ac hA => st_k hA fun ac hA => st_p (vB true) hA fun ac hA => st_p (vB true) hA fun ac hA => st_k hA fun ac hA => st_k hA fun ac hA => st_k hA fun ac hA => st_k hA fun ac hA => st_k hA fun ac hA => st_k hA fun ac hA => st_k hA fun ac hA => st_p (vB true) hA fun ac hA => st_p (vB true) hA fun ac hA => wn <| wp_ret <| r1 (vB true) hA ?_
     clear hA
     exact ⟨retv (congrArg vB (decide_eq_true (by unfold EvRel; omega)).symm), hW.fr⟩)
   rw [h5] at hA
   have h5 := ne_of_beq_false h5
   first
   | (exfalso; clear hA hW; omega)
   | (
    refine st_p (vI .i64 x.kind) hA fun ac hA => st_p (vB ((x.kind : Int) == (10 : Int))) hA fun ac hA => st_p (vB ((x.kind : Int) == (10 : Int))) hA fun ac hA => st_p (vB ((x.kind : Int) == (10 : Int))) hA fun ac hA => ?_
    rcases Bool.eq_false_or_eq_true ((x.kind : Int) == (10 : Int)) with h6 | h6
    ·
     rw [h6] at hA
     have h6 := eq_of_beq h6
     first
     | (exfalso; clear hA hW; omega)
     | (
      refine st_k hA fun ac hA => st_k hA fun ac hA => st_k hA fun ac hA => st_k hA fun ac hA => st_k hA fun ac hA => st_k hA fun ac hA => st_k hA fun ac hA => st_p (vB true) hA fun ac hA => st_p (vB true) hA fun ac hA => wn <| wp_ret <| r1 (vB true) hA ?_
      clear hA
      exact ⟨retv (congrArg vB (decide_eq_true (by unfold EvRel; omega)).symm), hW.fr⟩)
    rw [h6] at hA
    have h6 := ne_of_beq_false h6
    first
    | (exfalso; clear hA hW; omega)
    | (
     refine st_p (vI .i64 x.kind) hA fun ac hA => st_p (vB ((x.kind : Int) == (11 : Int))) hA fun ac hA => st_p (vB ((x.kind : Int) == (11 : Int))) hA fun ac hA => ?_
     rcases Bool.eq_false_or_eq_true ((x.kind : Int) == (11 : Int)) with h7 | h7
     ·
      rw [h7] at hA
      have h7 := eq_of_beq h7
      first
      | (exfalso; clear hA hW; omega)
      | (
       refine st_p (pA b1 7) hA fun ac hA => st_q (vI .i64 x.n) hA hW.cls (rl b1 7 0) fun ac hA => st_p (vB (decide ((x.n : Int) < (0 : Int)))) hA fun ac hA => st_p (vB (decide ((x.n : Int) < (0 : Int)))) hA fun ac hA => st_p (vB (decide ((x.n : Int) < (0 : Int)))) hA fun ac hA => st_p (vB (decide ((x.n : Int) < (0 : Int)))) hA fun ac hA => wn <| wp_ret <| r1 (vB (decide ((x.n : Int) < (0 : Int)))) hA ?_
       clear hA
       refine ⟨retv (congrArg vB ?_), hW.fr⟩
       rcases Bool.eq_false_or_eq_true (decide ((x.n : Int) < (0 : Int))) with q_ | q_
       · rw [q_]
         have q_ := of_decide_eq_true q_
         exact (decide_eq_true (by unfold EvRel; omega)).symm
       · rw [q_]
         have q_ := of_decide_eq_false q_
         exact (decide_eq_false (by unfold EvRel; omega)).symm)
     rw [h7] at hA
     have h7 := ne_of_beq_false h7
     first
     | (exfalso; clear hA hW; omega)
     | (
      refine st_k hA fun ac hA => st_k hA fun ac hA => st_k hA fun ac hA => st_p (vB false) hA fun ac hA => st_p (vB false) hA fun ac hA => st_p (vB false) hA fun ac hA => wn <| wp_ret <| r1 (vB false) hA ?_
      clear hA
      exact ⟨retv (congrArg vB (decide_eq_false (by unfold EvRel; omega)).symm), hW.fr⟩)))))

set_option maxRecDepth 100000 in
theorem e_dcome (en : Int) (A_L : Option Addr) (c_L : Nat) (L : List One4) (A_Q : Option Addr) (c_Q : Nat) (Q : List Thg4) (ks : KSt) (nn : Nat) (x : Event) (w : World) (hr_L : RowAt w A_L 2 enOne4 L) (hc_L : L.length ≤ c_L) (hn_L : (nestR innerOne4 L).p w) (hk_L : ∀ x_ ∈ L, capOne4 x_) (hr_Q : RowAt w A_Q 3 enThg4 Q) (hc_Q : Q.length ≤ c_Q) (hn_Q : (nestR innerThg4 Q).p w) (hk_Q : ∀ x_ ∈ Q, capThg4 x_) (hok : DOk en nn ks L Q) (hnn : nn ≤ 4095) (hkx : (-9223372036854775808 ≤ x.kind ∧ x.kind ≤ 9223372036854775807)) (hxg : -9223372036854775808 ≤ x.g ∧ x.g ≤ 9223372036854775807 ∧ -9223372036854775808 ≤ x.child ∧ x.child ≤ 9223372036854775807) (hob : (-9223372036854775808 ≤ x.obj ∧ x.obj ≤ 9223372036854775807)) (hown : ks.g x.g ≠ none → getC (kacc ks x) x.g = getC (gv ks x.g) x.g) : Calls Tryz.prog 20 #[vA #[vI .u64 en, vS A_L L.length c_L, vS A_Q Q.length c_Q], x.v] w (fun e w' => ∃ s' : KSt, ∃ at_ : Int, ∃ er : Int, ∃ L' : List One4, ∃ Q' : List Thg4, ∃ (A_oL : Option Addr) (c_oL : Nat), ∃ (A_oQ : Option Addr) (c_oQ : Nat), e = .returned (vT #[vA #[vI .u64 en, vS A_oL L'.length c_oL, vS A_oQ Q'.length c_oQ], vI .u64 at_, vI .i64 er]) ∧ ((s', at_, er) = comeK en ks x) ∧ (DOk en (nn + 1) s' L' Q') ∧ L'.length ≤ c_oL ∧ Q'.length ≤ c_oQ ∧ (∀ x_ ∈ (L'), capOne4 x_) ∧ (∀ x_ ∈ (Q'), capThg4 x_) ∧ (roR A_oL 2 enOne4 L').from_ [roR A_L 2 enOne4 L, nestR innerOne4 L, roR A_Q 3 enThg4 Q, nestR innerThg4 Q] w w' ∧ (roR A_oQ 3 enThg4 Q').from_ [roR A_L 2 enOne4 L, nestR innerOne4 L, roR A_Q 3 enThg4 Q, nestR innerThg4 Q] w w' ∧ (nestR innerOne4 L').from_ [roR A_L 2 enOne4 L, nestR innerOne4 L, roR A_Q 3 enThg4 Q, nestR innerThg4 Q] w w' ∧ (nestR innerThg4 Q').from_ [roR A_L 2 enOne4 L, nestR innerOne4 L, roR A_Q 3 enThg4 Q, nestR innerThg4 Q] w w' ∧ Fr No w w') := by
 have _hu := hc_L; have _hv := hr_L; clear _hu _hv
 have _hu := hk_L; have _hv := hn_L; clear _hu _hv
 have _hu := hc_Q; have _hv := hr_Q; clear _hu _hv
 have _hu := hk_Q; have _hv := hn_Q; clear _hu _hv
 have _hu := hok; clear _hu
 have _hu := hnn; clear _hu
 have _hu := hkx; clear _hu
 have _hu := hxg; clear _hu
 have _hu := hob; clear _hu
 have _hu := hown; clear _hu
 have hnl_ := hok.nL; have hnq_ := hok.nQ; have hcl_ := hok.cL; have hcq_ := hok.cQ; have he1_ := hok.e1; have he2_ := hok.e2
 have hkx_ := hkx
 refine enter_E 150 Tryz.func20 rfl rfl (by kernel_rfl) (L := [(0, vA #[vI .u64 en, vS A_L L.length c_L, vS A_Q Q.length c_Q]), (1, x.v)]) (by kernel_rfl) ?_
 intro ac hA
 have hW := Ws.start w No
 have hW := hW.arg hr_L
 have hW := hW.addG _ hn_L (nest_ltOne4 hn_L) (by simp)
 have hW := hW.arg hr_Q
 have hW := hW.addG _ hn_Q (nest_ltThg4 hn_Q) (by simp)
 refine wr <| st_s hA (Runs.cells (fun b => pA b 0) #[vI .u64 en, vS A_L L.length c_L, vS A_Q Q.length c_Q] 61 (fun _ => by kernel_rfl) hW ?_); clear hA ac hW; intro b1 w2 hW hb1 hfw2 ac hA
 refine st_s hA (Runs.cells (fun b => pA b 0) #[vI .i64 x.g, vI .i64 x.kind, vI .i64 x.site.f, vI .i64 x.site.pc, vI .u32 x.addr, vI .i64 x.child, vI .i64 x.obj, vI .i64 x.n, vI .i64 x.trap] 42 (fun _ => by kernel_rfl) hW ?_); clear hA ac hW; intro b3 w4 hW hb3 hfw4 ac hA
 refine st_s hA (Runs.cells (fun b => pA b 0) #[vI .u64 0, vS none 0 0, vS none 0 0] 61 (fun _ => by kernel_rfl) hW ?_); clear hA ac hW; intro b5 w6 hW hb5 hfw6 ac hA
 refine st_p (vI .u64 0) hA fun ac hA => st_p (vI .i64 0) hA fun ac hA => wn <| wp_seq <| wr <| st_q (vA #[vI .i64 x.g, vI .i64 x.kind, vI .i64 x.site.f, vI .i64 x.site.pc, vI .u32 x.addr, vI .i64 x.child, vI .i64 x.obj, vI .i64 x.n, vI .i64 x.trap]) hA hW.cls (rl b3 0 1) ?_; clear hA ac; intro ac hA
 refine st_s hA (Runs.callN (v := vB (evOk x)) (fun _ => by kernel_rfl) hW (e_r16right x w6 (by first | omega | assumption | exact ⟨by omega, by omega⟩ | exact hok.srt | exact hok.cL | exact hok.cQ)) ?_); clear hA ac hW; intro w7 hW hfw7 ac hA
 refine st_p (vB (!(evOk x))) hA ?_; clear hA ac; intro ac hA
 refine wn <| wp_cond_split (t := !(evOk x)) (hA.eval (by kernel_rfl)) (fun h8 => ?_) (fun h8 => ?_)
 ·
  have h8 := not_t h8
  first
  | (exfalso; clear hA hW; omega)
  | (
   refine wr <| st_q (vA #[vI .u64 en, vS A_L L.length c_L, vS A_Q Q.length c_Q]) hA hW.cls (rl b1 0 2) ?_; clear hA ac; intro ac hA
   refine st_s hA (Runs.store (v := vA #[vI .u64 en, vS A_L L.length c_L, vS A_Q Q.length c_Q]) (b := b5) (j := 0) (n := 3) (cs' := #[vI .u64 en, vS A_L L.length c_L, vS A_Q Q.length c_Q]) (H' := [Cel b5 #[vI .u64 en, vS A_L L.length c_L, vS A_Q Q.length c_Q] 61, Cel b3 #[vI .i64 x.g, vI .i64 x.kind, vI .i64 x.site.f, vI .i64 x.site.pc, vI .u32 x.addr, vI .i64 x.child, vI .i64 x.obj, vI .i64 x.n, vI .i64 x.trap] 42, Cel b1 #[vI .u64 en, vS A_L L.length c_L, vS A_Q Q.length c_Q] 61]) (by kernel_rfl) (by kernel_rfl) (by kernel_rfl) (by kernel_rfl) (by kernel_rfl) hW 0 (by rfl) (Nat.le_of_ble_eq_true (by kernel_rfl)) (by kernel_rfl) (by rfl) ?_); clear hA ac hW; intro w9 hW ac hA
   refine st_p (vI .u64 0) hA fun ac hA => st_p (vI .i64 2) hA fun ac hA => wn <| wp_ret <| thenR <| ret3 (v1 := vA #[vI .u64 en, vS A_L L.length c_L, vS A_Q Q.length c_Q]) (v2 := vI .u64 0) (v3 := vI .i64 2) (by rfl) hA (Got.cell (b := b5) (i := 0) hA (by kernel_rfl) (by kernel_rfl) (hW.cel 0 rfl) (by kernel_rfl)) (Got.tmp hA (by kernel_rfl) (by kernel_rfl)) (Got.tmp hA (by kernel_rfl) (by kernel_rfl)) ?_
   clear hA
   have hcx_ : comeErr en ks x = 2 := ce2 (fun q_ => by have q2_ := decide_eq_true q_; first | exact absurd (q2_.symm.trans (show evOk x = false from by first | exact h8 | simpa using h8)) (by decide))
   exact ⟨ks, 0, 2, L, Q, A_L, c_L, A_Q, c_Q, by first | rfl | (simp; done), by rw [← hcx_]; exact come_err (by rw [hcx_]; decide), by exact hok.more, (by first | assumption | omega | (simp; omega) | simp), (by first | assumption | omega | (simp; omega) | simp), hk_L, hk_Q, (hW.outSrc 3 rfl (src_arg (.head _))), (hW.outSrc 1 rfl (src_arg (.tail _ (.tail _ (.head _))))), (hW.outSrc 2 rfl (src_arg (.tail _ (.head _)))), (hW.outSrc 0 rfl (src_arg (.tail _ (.tail _ (.tail _ (.head _)))))), hW.fr⟩)
 have h8 := not_f h8
 first
 | (exfalso; clear hA hW; omega)
 | (
  refine wp_skip <| thenN <| wp_seq <| wr <| st_q (vA #[vI .u64 en, vS A_L L.length c_L, vS A_Q Q.length c_Q]) hA hW.cls (rl b1 0 2) fun ac hA => st_p (pA b3 0) hA fun ac hA => st_q (vI .i64 x.g) hA hW.cls (rl b3 0 1) fun ac hA => st_s hA (Runs.callN (v := vI .i64 (atK L (x.g))) (fun _ => by kernel_rfl) hW (e_kat (en) A_L c_L L A_Q c_Q Q (x.g) w7 ((hW).getG 3 rfl) (by first | assumption | omega | (simp; omega) | simp) ((hW).getG 2 rfl) hk_L ((hW).getG 1 rfl) (by first | assumption | omega | (simp; omega) | simp) ((hW).getG 0 rfl) hk_Q (by first | omega | assumption | exact ⟨by omega, by omega⟩ | exact hok.srt | exact hok.cL | exact hok.cQ) (by first | omega | assumption | exact ⟨by omega, by omega⟩ | exact hok.srt | exact hok.cL | exact hok.cQ) (by first | omega | assumption | exact ⟨by omega, by omega⟩ | exact hok.srt | exact hok.cL | exact hok.cQ) (by first | omega | assumption | exact ⟨by omega, by omega⟩ | exact hok.srt | exact hok.cL | exact hok.cQ) (by first | omega | assumption | exact ⟨by omega, by omega⟩ | exact hok.srt | exact hok.cL | exact hok.cQ)) ?_); clear hA ac hW; intro w10 hW hfw10 ac hA
  refine st_p (vB (decide ((atK L (x.g) : Int) < (0 : Int)))) hA ?_; clear hA ac; intro ac hA
  refine wn <| wp_cond_split (t := decide ((atK L (x.g) : Int) < (0 : Int))) (hA.eval (by kernel_rfl)) (fun h11 => ?_) (fun h11 => ?_)
  ·
   have h11 := of_decide_eq_true h11
   first
   | (exfalso; clear hA hW; omega)
   | (
    refine wr <| st_q (vA #[vI .u64 en, vS A_L L.length c_L, vS A_Q Q.length c_Q]) hA hW.cls (rl b1 0 2) ?_; clear hA ac; intro ac hA
    refine st_s hA (Runs.store (v := vA #[vI .u64 en, vS A_L L.length c_L, vS A_Q Q.length c_Q]) (b := b5) (j := 0) (n := 3) (cs' := #[vI .u64 en, vS A_L L.length c_L, vS A_Q Q.length c_Q]) (H' := [Cel b5 #[vI .u64 en, vS A_L L.length c_L, vS A_Q Q.length c_Q] 61, Cel b3 #[vI .i64 x.g, vI .i64 x.kind, vI .i64 x.site.f, vI .i64 x.site.pc, vI .u32 x.addr, vI .i64 x.child, vI .i64 x.obj, vI .i64 x.n, vI .i64 x.trap] 42, Cel b1 #[vI .u64 en, vS A_L L.length c_L, vS A_Q Q.length c_Q] 61]) (by kernel_rfl) (by kernel_rfl) (by kernel_rfl) (by kernel_rfl) (by kernel_rfl) hW 0 (by rfl) (Nat.le_of_ble_eq_true (by kernel_rfl)) (by kernel_rfl) (by rfl) ?_); clear hA ac hW; intro w12 hW ac hA
    refine st_p (vI .u64 0) hA fun ac hA => st_p (vI .i64 4) hA fun ac hA => wn <| wp_ret <| thenR <| ret3 (v1 := vA #[vI .u64 en, vS A_L L.length c_L, vS A_Q Q.length c_Q]) (v2 := vI .u64 0) (v3 := vI .i64 4) (by rfl) hA (Got.cell (b := b5) (i := 0) hA (by kernel_rfl) (by kernel_rfl) (hW.cel 0 rfl) (by kernel_rfl)) (Got.tmp hA (by kernel_rfl) (by kernel_rfl)) (Got.tmp hA (by kernel_rfl) (by kernel_rfl)) ?_
    clear hA
    have hcx_ : comeErr en ks x = 4 := ce4 (of_decide_eq_true (show evOk x = true from by first | exact h8 | simpa using h8)) (fun q_ => q_ ((hok.at _).1 (by omega)))
    exact ⟨ks, 0, 4, L, Q, A_L, c_L, A_Q, c_Q, by first | rfl | (simp; done), by rw [← hcx_]; exact come_err (by rw [hcx_]; decide), by exact hok.more, (by first | assumption | omega | (simp; omega) | simp), (by first | assumption | omega | (simp; omega) | simp), hk_L, hk_Q, (hW.outSrc 3 rfl (src_arg (.head _))), (hW.outSrc 1 rfl (src_arg (.tail _ (.tail _ (.head _))))), (hW.outSrc 2 rfl (src_arg (.tail _ (.head _)))), (hW.outSrc 0 rfl (src_arg (.tail _ (.tail _ (.tail _ (.head _)))))), hW.fr⟩)
  have h11 := of_decide_eq_false h11
  first
  | (exfalso; clear hA hW; omega)
  | (
   refine wp_skip <| thenN <| wr <| st_p (pA b3 1) hA fun ac hA => st_q (vI .i64 x.kind) hA hW.cls (rl b3 1 1) fun ac hA => st_p (vI .i64 x.kind) hA fun ac hA => wn <| wp_seq <| wp_cutR (fun ac_ wl_ =>  (x.kind = 4 → ks.g x.child = none) ∧ Fm 150 [] [(2, pA b1 0), (3, pA b3 0), (4, pA b5 0), (7, vI .i64 x.kind)] ac_ ∧ Ws w No [Cel b5 #[vI .u64 0, vS none 0 0, vS none 0 0] 61, Cel b3 #[vI .i64 x.g, vI .i64 x.kind, vI .i64 x.site.f, vI .i64 x.site.pc, vI .u32 x.addr, vI .i64 x.child, vI .i64 x.obj, vI .i64 x.n, vI .i64 x.trap] 42, Cel b1 #[vI .u64 en, vS A_L L.length c_L, vS A_Q Q.length c_Q] 61] [nestR innerThg4 Q, roR A_Q 3 enThg4 Q, nestR innerOne4 L, roR A_L 2 enOne4 L] wl_) ?_ ?_
   ·
    refine wr <| st_p (vI .i64 x.kind) hA fun ac hA => st_p (vB ((x.kind : Int) == (4 : Int))) hA fun ac hA => st_p (vB ((x.kind : Int) == (4 : Int))) hA fun ac hA => ?_
    rcases Bool.eq_false_or_eq_true ((x.kind : Int) == (4 : Int)) with h13 | h13
    ·
     rw [h13] at hA
     have h13 := eq_of_beq h13
     first
     | (exfalso; clear hA hW; omega)
     | (
      refine st_q (vA #[vI .u64 en, vS A_L L.length c_L, vS A_Q Q.length c_Q]) hA hW.cls (rl b1 0 2) fun ac hA => st_p (pA b3 5) hA fun ac hA => st_q (vI .i64 x.child) hA hW.cls (rl b3 5 1) fun ac hA => st_s hA (Runs.callN (v := vI .i64 (atK L (x.child))) (fun _ => by kernel_rfl) hW (e_kat (en) A_L c_L L A_Q c_Q Q (x.child) w10 ((hW).getG 3 rfl) (by first | assumption | omega | (simp; omega) | simp) ((hW).getG 2 rfl) hk_L ((hW).getG 1 rfl) (by first | assumption | omega | (simp; omega) | simp) ((hW).getG 0 rfl) hk_Q (by first | omega | assumption | exact ⟨by omega, by omega⟩ | exact hok.srt | exact hok.cL | exact hok.cQ) (by first | omega | assumption | exact ⟨by omega, by omega⟩ | exact hok.srt | exact hok.cL | exact hok.cQ) (by first | omega | assumption | exact ⟨by omega, by omega⟩ | exact hok.srt | exact hok.cL | exact hok.cQ) (by first | omega | assumption | exact ⟨by omega, by omega⟩ | exact hok.srt | exact hok.cL | exact hok.cQ) (by first | omega | assumption | exact ⟨by omega, by omega⟩ | exact hok.srt | exact hok.cL | exact hok.cQ)) ?_); clear hA ac hW; intro w14 hW hfw14 ac hA
      refine st_p (vB (decide ((atK L (x.child) : Int) ≥ (0 : Int)))) hA fun ac hA => st_p (vB (decide ((atK L (x.child) : Int) ≥ (0 : Int)))) hA fun ac hA => wn <| wp_cond_split (t := decide ((atK L (x.child) : Int) ≥ (0 : Int))) (hA.eval (by kernel_rfl)) (fun h15 => ?_) (fun h15 => ?_)
      ·
       have h15 := of_decide_eq_true h15
       first
       | (exfalso; clear hA hW; omega)
       | (
        refine wr <| st_q (vA #[vI .u64 en, vS A_L L.length c_L, vS A_Q Q.length c_Q]) hA hW.cls (rl b1 0 2) ?_; clear hA ac; intro ac hA
        refine st_s hA (Runs.store (v := vA #[vI .u64 en, vS A_L L.length c_L, vS A_Q Q.length c_Q]) (b := b5) (j := 0) (n := 3) (cs' := #[vI .u64 en, vS A_L L.length c_L, vS A_Q Q.length c_Q]) (H' := [Cel b5 #[vI .u64 en, vS A_L L.length c_L, vS A_Q Q.length c_Q] 61, Cel b3 #[vI .i64 x.g, vI .i64 x.kind, vI .i64 x.site.f, vI .i64 x.site.pc, vI .u32 x.addr, vI .i64 x.child, vI .i64 x.obj, vI .i64 x.n, vI .i64 x.trap] 42, Cel b1 #[vI .u64 en, vS A_L L.length c_L, vS A_Q Q.length c_Q] 61]) (by kernel_rfl) (by kernel_rfl) (by kernel_rfl) (by kernel_rfl) (by kernel_rfl) hW 0 (by rfl) (Nat.le_of_ble_eq_true (by kernel_rfl)) (by kernel_rfl) (by rfl) ?_); clear hA ac hW; intro w16 hW ac hA
        refine st_p (vI .u64 0) hA fun ac hA => st_p (vI .i64 340) hA fun ac hA => wn <| wp_ret <| cutR <| thenR <| ret3 (v1 := vA #[vI .u64 en, vS A_L L.length c_L, vS A_Q Q.length c_Q]) (v2 := vI .u64 0) (v3 := vI .i64 340) (by rfl) hA (Got.cell (b := b5) (i := 0) hA (by kernel_rfl) (by kernel_rfl) (hW.cel 0 rfl) (by kernel_rfl)) (Got.tmp hA (by kernel_rfl) (by kernel_rfl)) (Got.tmp hA (by kernel_rfl) (by kernel_rfl)) ?_
        clear hA
        have hcx_ : comeErr en ks x = 340 := ce340 (of_decide_eq_true (show evOk x = true from by first | exact h8 | simpa using h8)) ((hok.at' _).1 (by omega)) ⟨by omega, (hok.at' _).1 (by omega)⟩
        exact ⟨ks, 0, 340, L, Q, A_L, c_L, A_Q, c_Q, by first | rfl | (simp; done), by rw [← hcx_]; exact come_err (by rw [hcx_]; decide), by exact hok.more, (by first | assumption | omega | (simp; omega) | simp), (by first | assumption | omega | (simp; omega) | simp), hk_L, hk_Q, (hW.outSrc 3 rfl (src_arg (.head _))), (hW.outSrc 1 rfl (src_arg (.tail _ (.tail _ (.head _))))), (hW.outSrc 2 rfl (src_arg (.tail _ (.head _)))), (hW.outSrc 0 rfl (src_arg (.tail _ (.tail _ (.tail _ (.head _)))))), hW.fr⟩)
      have h15 := of_decide_eq_false h15
      first
      | (exfalso; clear hA hW; omega)
      | (
       refine wp_skip <| cutN ?_
       exact ⟨by exact fun q_ => (hok.at _).1 (by omega), hA.sub (by and_intros <;> first | kernel_rfl | trivial), (hW.pick [0, 1, 2] (by decide) rfl).pickG [0, 1, 2, 3] rfl⟩))
    rw [h13] at hA
    have h13 := ne_of_beq_false h13
    first
    | (exfalso; clear hA hW; omega)
    | (
     refine st_k hA fun ac hA => st_k hA fun ac hA => st_k hA fun ac hA => st_k hA fun ac hA => st_k hA fun ac hA => st_p (vB false) hA fun ac hA => wn <| wp_cond_false (hA.eval (by kernel_rfl)) <| wp_skip <| cutN ?_
     exact ⟨by exact fun q_ => by omega, hA.sub (by and_intros <;> first | kernel_rfl | trivial), (hW.pick [0, 1, 2] (by decide) rfl).pickG [0, 1, 2, 3] rfl⟩)
   clear hA ac hW; rintro ac w17 ⟨hk4_, hA, hW⟩
   refine thenN <| wp_seq <| wp_cutR (fun ac_ wl_ =>  (EvRel x → ¬ fullK en ks x.g) ∧ Fm 150 [] [(2, pA b1 0), (3, pA b3 0), (4, pA b5 0), (7, vI .i64 x.kind)] ac_ ∧ Ws w No [Cel b5 #[vI .u64 0, vS none 0 0, vS none 0 0] 61, Cel b3 #[vI .i64 x.g, vI .i64 x.kind, vI .i64 x.site.f, vI .i64 x.site.pc, vI .u32 x.addr, vI .i64 x.child, vI .i64 x.obj, vI .i64 x.n, vI .i64 x.trap] 42, Cel b1 #[vI .u64 en, vS A_L L.length c_L, vS A_Q Q.length c_Q] 61] [nestR innerThg4 Q, roR A_Q 3 enThg4 Q, nestR innerOne4 L, roR A_L 2 enOne4 L] wl_) ?_ ?_
   ·
    refine wr <| st_q (vA #[vI .i64 x.g, vI .i64 x.kind, vI .i64 x.site.f, vI .i64 x.site.pc, vI .u32 x.addr, vI .i64 x.child, vI .i64 x.obj, vI .i64 x.n, vI .i64 x.trap]) hA hW.cls (rl b3 0 1) ?_; clear hA ac; intro ac hA
    refine st_s hA (Runs.callN (v := vB (evRel x)) (fun _ => by kernel_rfl) hW (e_r16rel x w17) ?_); clear hA ac hW; intro w18 hW hfw18 ac hA
    refine st_p (vB (evRel x)) hA ?_; clear hA ac; intro ac hA
    rcases Bool.eq_false_or_eq_true (evRel x) with h19 | h19
    ·
     rw [h19] at hA
     first
     | (exfalso; clear hA hW; omega)
     | (
      refine st_q (vA #[vI .u64 en, vS A_L L.length c_L, vS A_Q Q.length c_Q]) hA hW.cls (rl b1 0 2) fun ac hA => st_p (pA b3 0) hA fun ac hA => st_q (vI .i64 x.g) hA hW.cls (rl b3 0 1) fun ac hA => st_s hA (Runs.callN (v := vB (decide (fullK (en) ks (x.g)))) (fun _ => by kernel_rfl) hW (e_dfull (en) A_L c_L L A_Q c_Q Q ks nn (x.g) w18 ((hW).getG 3 rfl) (by first | assumption | omega | (simp; omega) | simp) ((hW).getG 2 rfl) hk_L ((hW).getG 1 rfl) (by first | assumption | omega | (simp; omega) | simp) ((hW).getG 0 rfl) hk_Q (by first | omega | assumption | exact ⟨by omega, by omega⟩ | exact hok.srt | exact hok.cL | exact hok.cQ) (by first | omega | assumption | exact ⟨by omega, by omega⟩ | exact hok.srt | exact hok.cL | exact hok.cQ) (by first | omega | assumption | exact ⟨by omega, by omega⟩ | exact hok.srt | exact hok.cL | exact hok.cQ)) ?_); clear hA ac hW; intro w20 hW hfw20 ac hA
      refine st_p (vB (decide (fullK (en) ks (x.g)))) hA ?_; clear hA ac; intro ac hA
      refine wn <| wp_cond_split (t := decide (fullK (en) ks (x.g))) (hA.eval (by kernel_rfl)) (fun h21 => ?_) (fun h21 => ?_)
      ·
       have h21 := of_decide_eq_true h21
       first
       | (exfalso; clear hA hW; omega)
       | (
        refine wr <| st_q (vA #[vI .u64 en, vS A_L L.length c_L, vS A_Q Q.length c_Q]) hA hW.cls (rl b1 0 2) ?_; clear hA ac; intro ac hA
        refine st_s hA (Runs.store (v := vA #[vI .u64 en, vS A_L L.length c_L, vS A_Q Q.length c_Q]) (b := b5) (j := 0) (n := 3) (cs' := #[vI .u64 en, vS A_L L.length c_L, vS A_Q Q.length c_Q]) (H' := [Cel b5 #[vI .u64 en, vS A_L L.length c_L, vS A_Q Q.length c_Q] 61, Cel b3 #[vI .i64 x.g, vI .i64 x.kind, vI .i64 x.site.f, vI .i64 x.site.pc, vI .u32 x.addr, vI .i64 x.child, vI .i64 x.obj, vI .i64 x.n, vI .i64 x.trap] 42, Cel b1 #[vI .u64 en, vS A_L L.length c_L, vS A_Q Q.length c_Q] 61]) (by kernel_rfl) (by kernel_rfl) (by kernel_rfl) (by kernel_rfl) (by kernel_rfl) hW 0 (by rfl) (Nat.le_of_ble_eq_true (by kernel_rfl)) (by kernel_rfl) (by rfl) ?_); clear hA ac hW; intro w22 hW ac hA
        refine st_p (vI .u64 0) hA fun ac hA => st_p (vI .i64 130) hA fun ac hA => wn <| wp_ret <| cutR <| thenR <| ret3 (v1 := vA #[vI .u64 en, vS A_L L.length c_L, vS A_Q Q.length c_Q]) (v2 := vI .u64 0) (v3 := vI .i64 130) (by rfl) hA (Got.cell (b := b5) (i := 0) hA (by kernel_rfl) (by kernel_rfl) (hW.cel 0 rfl) (by kernel_rfl)) (Got.tmp hA (by kernel_rfl) (by kernel_rfl)) (Got.tmp hA (by kernel_rfl) (by kernel_rfl)) ?_
        clear hA
        have hcx_ : comeErr en ks x = 130 := ce130 (of_decide_eq_true (show evOk x = true from by first | exact h8 | simpa using h8)) ((hok.at' _).1 (by omega)) (fun q_ => q_.2 (hk4_ q_.1)) ⟨of_decide_eq_true h19, h21⟩
        exact ⟨ks, 0, 130, L, Q, A_L, c_L, A_Q, c_Q, by first | rfl | (simp; done), by rw [← hcx_]; exact come_err (by rw [hcx_]; decide), by exact hok.more, (by first | assumption | omega | (simp; omega) | simp), (by first | assumption | omega | (simp; omega) | simp), hk_L, hk_Q, (hW.outSrc 3 rfl (src_arg (.head _))), (hW.outSrc 1 rfl (src_arg (.tail _ (.tail _ (.head _))))), (hW.outSrc 2 rfl (src_arg (.tail _ (.head _)))), (hW.outSrc 0 rfl (src_arg (.tail _ (.tail _ (.tail _ (.head _)))))), hW.fr⟩)
      have h21 := of_decide_eq_false h21
      first
      | (exfalso; clear hA hW; omega)
      | (
       refine wp_skip <| cutN ?_
       exact ⟨by exact fun _ => h21, hA.sub (by and_intros <;> first | kernel_rfl | trivial), (hW.pick [0, 1, 2] (by decide) rfl).pickG [0, 1, 2, 3] rfl⟩))
    rw [h19] at hA
    first
    | (exfalso; clear hA hW; omega)
    | (
     refine st_k hA fun ac hA => st_k hA fun ac hA => st_k hA fun ac hA => st_k hA fun ac hA => st_p (vB false) hA fun ac hA => wn <| wp_cond_false (hA.eval (by kernel_rfl)) <| wp_skip <| cutN ?_
     exact ⟨by exact fun q_ => absurd q_ (of_decide_eq_false h19), hA.sub (by and_intros <;> first | kernel_rfl | trivial), (hW.pick [0, 1, 2] (by decide) rfl).pickG [0, 1, 2, 3] rfl⟩)
   clear hA ac hW; rintro ac w23 ⟨hrf_, hA, hW⟩
   refine thenN <| wp_seq ?_
   have hxo_ : EvOk x := (of_decide_eq_true (show evOk x = true from by first | exact h8 | simpa using h8)); have hxx_ := hxo_; unfold EvOk at hxx_
   have hxb_ : ks.g x.g ≠ none := (hok.at' _).1 (by omega)
   have hce_ : comeErr en ks x = 0 := ce0 hxo_ hxb_ (fun q_ => q_.2 (hk4_ q_.1)) (fun q_ => hrf_ q_.1 q_.2)
   have hxf_ := (come0 hce_).2.2
   have hlof_ : (trimC (ofK L x.g)).length ≤ 65536 := by rw [hok.of]; exact (hok.gvb _).1.1
   have hlth_ : ∀ k o, (thK Q k o).length ≤ 65536 := th_len hok.cQ
   have hkb_ := fold_bd hok x
   refine wp_region_lit <| st_q (vA #[vI .u64 en, vS A_L L.length c_L, vS A_Q Q.length c_Q]) hA hW.cls (rl b1 0 2) fun ac hA => st_p (pA b3 0) hA fun ac hA => st_q (vI .i64 x.g) hA hW.cls (rl b3 0 1) fun ac hA => st_s hA (Runs.callRow (E := 29) (sz := 1) (en := enU8) (l := (trimC (ofK L (x.g)))) (fun _ => by kernel_rfl) hW (e_kof4 (en) A_L c_L L A_Q c_Q Q (x.g) w23 ((hW).getG 3 rfl) (by first | assumption | omega | (simp; omega) | simp) ((hW).getG 2 rfl) hk_L ((hW).getG 1 rfl) (by first | assumption | omega | (simp; omega) | simp) ((hW).getG 0 rfl) hk_Q (by first | omega | assumption | exact ⟨by omega, by omega⟩ | exact hok.srt | exact hok.cL | exact hok.cQ) (by first | omega | assumption | exact ⟨by omega, by omega⟩ | exact hok.srt | exact hok.cL | exact hok.cQ) (by first | omega | assumption | exact ⟨by omega, by omega⟩ | exact hok.srt | exact hok.cL | exact hok.cQ) (by first | omega | assumption | exact ⟨by omega, by omega⟩ | exact hok.srt | exact hok.cL | exact hok.cQ) (by first | omega | assumption | exact ⟨by omega, by omega⟩ | exact hok.srt | exact hok.cL | exact hok.cQ)) ?_); clear hA ac hW; intro A25 c26 w24 hW hcc26 hfw24 ac hA
   refine st_s hA (Runs.cells (fun b => vS (some ⟨b, 0, none⟩) 1 1) #[vS A25 (trimC (ofK L (x.g))).length c26] 34 (fun _ => by kernel_rfl) hW ?_); clear hA ac hW; intro b28 w29 hW hb28 hfw29 ac hA
   refine st_p (vS (some ⟨b28, 0, none⟩) 1 1) hA ?_; clear hA ac; intro ac hA
   refine wn <| wp_seq ?_
   have hW := hW.nestNil innerSV
   have hknq30 : ∀ x_ ∈ ([] : List SV), capSV x_ := all_nil
   have hsnq30 : Res.src (nestR innerSV ([] : List SV)) [roR A_L 2 enOne4 L, nestR innerOne4 L, roR A_Q 3 enThg4 Q, nestR innerThg4 Q] w := nsrc_nil
   have hsrow27 : Res.src (roR A25 1 enU8 (trimC (ofK L (x.g)))) [roR A_L 2 enOne4 L, nestR innerOne4 L, roR A_Q 3 enThg4 Q, nestR innerThg4 Q] w := fun b_ hb_ => .inr ((hW.may _ (List.mem_of_getElem? (i := 1) rfl) b_ (rowR_fp b_ hb_)).resolve_left (fun h_ => h_))
   have hW := hW.share 1 rfl (H' := [Cel b28 #[vS A25 (trimC (ofK L (x.g))).length c26] 34, Cel b5 #[vI .u64 0, vS none 0 0, vS none 0 0] 61, Cel b3 #[vI .i64 x.g, vI .i64 x.kind, vI .i64 x.site.f, vI .i64 x.site.pc, vI .u32 x.addr, vI .i64 x.child, vI .i64 x.obj, vI .i64 x.n, vI .i64 x.trap] 42, Cel b1 #[vI .u64 en, vS A_L L.length c_L, vS A_Q Q.length c_Q] 61]) rfl
   have hcq31 : (trimC (ofK L (x.g))).length ≤ c26 := (own_cap (E := 29) (sz := 1) (en := enU8) ((hW).getG 0 rfl))
   have hW := Ws.nestCons (inner := innerSV) hW 1 rfl (⟨trimC (ofK L (x.g)), A25, c26⟩ : SV) (rowR_at (E := 29) (hW.getG 0 rfl) elt_U8.len) (fun _ hb_ => ⟨_, List.mem_of_getElem? (i := 0) rfl, rowR_fp _ hb_⟩)
   have hknq32 : ∀ x_ ∈ ([(⟨trimC (ofK L (x.g)), A25, c26⟩ : SV)] : List SV), capSV x_ := all_cons hcq31 hknq30
   have hsnq32 : Res.src (nestR innerSV ([(⟨trimC (ofK L (x.g)), A25, c26⟩ : SV)] : List SV)) [roR A_L 2 enOne4 L, nestR innerOne4 L, roR A_Q 3 enThg4 Q, nestR innerThg4 Q] w := nsrc_cons hsrow27 hsnq30
   have hW := hW.celRow (en := enSV) (H' := [rowR 34 1 enSV (vS (some ⟨b28, 0, none⟩) ([(⟨trimC (ofK L (x.g)), A25, c26⟩ : SV)] : List SV).length ([(⟨trimC (ofK L (x.g)), A25, c26⟩ : SV)] : List SV).length) ([(⟨trimC (ofK L (x.g)), A25, c26⟩ : SV)] : List SV), Cel b5 #[vI .u64 0, vS none 0 0, vS none 0 0] 61, Cel b3 #[vI .i64 x.g, vI .i64 x.kind, vI .i64 x.site.f, vI .i64 x.site.pc, vI .u32 x.addr, vI .i64 x.child, vI .i64 x.obj, vI .i64 x.n, vI .i64 x.trap] 42, Cel b1 #[vI .u64 en, vS A_L L.length c_L, vS A_Q Q.length c_Q] 61]) 0 rfl ([(⟨trimC (ofK L (x.g)), A25, c26⟩ : SV)] : List SV) (by rfl) elt_SV.len (show (1 : Nat) ≤ maxLen from by decide) rfl
   refine wp_cut (fun ac_ wl_ => ∃ m : List SV, ∃ A : Option Addr, ∃ cc : Nat, (trimC (foldJ m) = kacc ks x) ∧ (m.length ≤ 3) ∧ (∀ y ∈ m, y.l.length ≤ 65536) ∧ (m.length ≤ cc) ∧ (∀ x_ ∈ m, capSV x_) ∧ (Res.src (nestR innerSV m) [roR A_L 2 enOne4 L, nestR innerOne4 L, roR A_Q 3 enThg4 Q, nestR innerThg4 Q] w) ∧ Fm 150 [] [(2, pA b1 0), (3, pA b3 0), (4, pA b5 0), (7, vI .i64 x.kind), (8, vS A m.length cc)] ac_ ∧ Ws w No [rowR 34 1 enSV (vS A m.length cc) m, Cel b5 #[vI .u64 0, vS none 0 0, vS none 0 0] 61, Cel b3 #[vI .i64 x.g, vI .i64 x.kind, vI .i64 x.site.f, vI .i64 x.site.pc, vI .u32 x.addr, vI .i64 x.child, vI .i64 x.obj, vI .i64 x.n, vI .i64 x.trap] 42, Cel b1 #[vI .u64 en, vS A_L L.length c_L, vS A_Q Q.length c_Q] 61] [nestR innerSV m, nestR innerThg4 Q, roR A_Q 3 enThg4 Q, nestR innerOne4 L, roR A_L 2 enOne4 L] wl_) ?_ ?_
   ·
    refine wr <| st_p (vI .i64 x.kind) hA ?_; clear hA ac; intro ac hA
    refine wn <| wp_block <| wr <| st_p (vB ((x.kind : Int) == (5 : Int))) hA fun ac hA => st_p (vB ((x.kind : Int) == (5 : Int))) hA fun ac hA => wn <| wp_cond_split (t := (x.kind : Int) == (5 : Int)) (hA.eval (by kernel_rfl)) (fun h33 => ?_) (fun h33 => ?_)
    ·
     have h33 := eq_of_beq h33
     first
     | (exfalso; clear hA hW; omega)
     | (
      refine wp_region_lit <| st_p (vS (some ⟨b28, 0, none⟩) ([(⟨trimC (ofK L (x.g)), A25, c26⟩ : SV)] : List SV).length ([(⟨trimC (ofK L (x.g)), A25, c26⟩ : SV)] : List SV).length) hA fun ac hA => st_q (vA #[vI .u64 en, vS A_L L.length c_L, vS A_Q Q.length c_Q]) hA hW.cls (rl b1 0 3) fun ac hA => st_p (pA b3 6) hA fun ac hA => st_q (vI .i64 x.obj) hA hW.cls (rl b3 6 2) fun ac hA => st_s hA (Runs.call (fun _ => by kernel_rfl) (e_kthing4 (en) A_L c_L L A_Q c_Q Q (6) (x.obj) w29 ((hW).getG 6 rfl) (by first | assumption | omega | (simp; omega) | simp) ((hW).getG 5 rfl) hk_L ((hW).getG 4 rfl) (by first | assumption | omega | (simp; omega) | simp) ((hW).getG 3 rfl) hk_Q (by first | omega | assumption | exact ⟨by omega, by omega⟩ | exact hok.srt | exact hok.cL | exact hok.cQ) (by first | omega | assumption | exact ⟨by omega, by omega⟩ | exact hok.srt | exact hok.cL | exact hok.cQ) (by first | omega | assumption | exact ⟨by omega, by omega⟩ | exact hok.srt | exact hok.cL | exact hok.cQ) (by first | omega | assumption | exact ⟨by omega, by omega⟩ | exact hok.srt | exact hok.cL | exact hok.cQ) (by first | omega | assumption | exact ⟨by omega, by omega⟩ | exact hok.srt | exact hok.cL | exact hok.cQ) (by first | omega | assumption | exact ⟨by omega, by omega⟩ | exact hok.srt | exact hok.cL | exact hok.cQ)) ?_)
      rintro _ w34 ⟨Aow35, cow36, rfl, hccow36, hfcow36, hfw34⟩; refine ⟨_, rfl, ?_⟩; have hW0 := hW; have hW := hW0.call hfw34
      have hW := hW0.addFromAt hW hfcow36 (in_cons (in_at 6 rfl) (in_cons (in_at 5 rfl) (in_cons (in_at 4 rfl) (in_cons (in_at 3 rfl) in_nil))))
      have hscow36 : Res.src (roR Aow35 1 enU8 (thK Q (6) (x.obj))) [roR A_L 2 enOne4 L, nestR innerOne4 L, roR A_Q 3 enThg4 Q, nestR innerThg4 Q] w := src_call hfcow36 (srcs_cons (src_arg (.head _)) (srcs_cons (src_arg (.tail _ (.head _))) (srcs_cons (src_arg (.tail _ (.tail _ (.head _)))) (srcs_cons (src_arg (.tail _ (.tail _ (.tail _ (.head _))))) srcs_nil)))) hW0.fr.size
      clear hW0 hA ac; intro ac hA
      refine st_s hA (Runs.cells (fun b => vS (some ⟨b, 0, none⟩) 1 1) #[vS Aow35 (thK Q (6) (x.obj)).length cow36] 34 (fun _ => by kernel_rfl) hW ?_); clear hA ac hW; intro b37 w38 hW hb37 hfw38 ac hA
      have hcq39 : (thK Q (6) (x.obj)).length ≤ cow36 := (by first | assumption | omega | (simp; omega) | simp)
      have hW := Ws.nestCons (inner := innerSV) hW 3 rfl (⟨thK Q (6) (x.obj), Aow35, cow36⟩ : SV) (hW.getG 0 rfl) (fun _ hb_ => ⟨_, List.mem_of_getElem? (i := 0) rfl, hb_⟩)
      have hknq40 : ∀ x_ ∈ ([(⟨thK Q (6) (x.obj), Aow35, cow36⟩ : SV)] : List SV), capSV x_ := all_cons hcq39 hknq30
      have hsnq40 : Res.src (nestR innerSV ([(⟨thK Q (6) (x.obj), Aow35, cow36⟩ : SV)] : List SV)) [roR A_L 2 enOne4 L, nestR innerOne4 L, roR A_Q 3 enThg4 Q, nestR innerThg4 Q] w := nsrc_cons hscow36 hsnq30
      have hW := hW.nestApp 2 0 rfl rfl
      have hknq41 : ∀ x_ ∈ (([(⟨trimC (ofK L (x.g)), A25, c26⟩ : SV)] : List SV) ++ ([(⟨thK Q (6) (x.obj), Aow35, cow36⟩ : SV)] : List SV)), capSV x_ := all_app hknq32 hknq40
      have hsnq41 : Res.src (nestR innerSV (([(⟨trimC (ofK L (x.g)), A25, c26⟩ : SV)] : List SV) ++ ([(⟨thK Q (6) (x.obj), Aow35, cow36⟩ : SV)] : List SV))) [roR A_L 2 enOne4 L, nestR innerOne4 L, roR A_Q 3 enThg4 Q, nestR innerThg4 Q] w := nsrc_app hsnq32 hsnq40
      refine st_s hA (Runs.appOwn (B := (some ⟨b37, 0, none⟩)) (k := 1) (E := 34) (sz := 1) (en := enSV) (l := ([(⟨trimC (ofK L (x.g)), A25, c26⟩ : SV)] : List SV)) (m := ([(⟨thK Q (6) (x.obj), Aow35, cow36⟩ : SV)] : List SV)) (i := 1) (by kernel_rfl) (by kernel_rfl) elt_SV (by kernel_rfl) hW rfl (rowAt_cel ((hW).cel 0 rfl) ([(⟨thK Q (6) (x.obj), Aow35, cow36⟩ : SV)] : List SV) (by rfl) elt_SV.len) (by first | omega | (simp; done) | (simp; omega)) (by first | omega | (simp; done) | (simp; omega)) ?_); clear hA ac hW; intro A42 c43 w44 hW hcc43 ac hA
      refine st_p (vS A42 (([(⟨trimC (ofK L (x.g)), A25, c26⟩ : SV)] : List SV) ++ ([(⟨thK Q (6) (x.obj), Aow35, cow36⟩ : SV)] : List SV)).length c43) hA ?_; clear hA ac; intro ac hA
      refine wpList_nil <| blkN ?_
      exact ⟨([(⟨trimC (ofK L (x.g)), A25, c26⟩ : SV)] : List SV) ++ ([(⟨thK Q (6) (x.obj), Aow35, cow36⟩ : SV)] : List SV), A42, c43, by show trimC (joinC (joinC [] (trimC (ofK L x.g))) (thK Q 6 x.obj)) = _; rw [hok.of, hok.t]; exact DOk.acc1 (by rw [show x.kind = 5 from by omega]; rfl), by simp, by intro y_ hy_; rcases List.mem_append.1 hy_ with hy_ | hy_; (rw [List.mem_singleton.1 hy_]; exact hlof_); (rw [List.mem_singleton.1 hy_]; exact hlth_ _ _), by exact (own_cap ((hW).get 1 rfl)), by exact hknq41, by exact hsnq41, hA.sub (by and_intros <;> first | kernel_rfl | trivial), (hW.pick [1, 2, 3, 4] (by decide) rfl).pickG [0, 6, 7, 8, 9] rfl⟩)
    have h33 := ne_of_beq_false h33
    first
    | (exfalso; clear hA hW; omega)
    | (
     refine wr <| st_p (vB ((x.kind : Int) == (7 : Int))) hA fun ac hA => st_p (vB ((x.kind : Int) == (7 : Int))) hA fun ac hA => wn <| wp_cond_split (t := (x.kind : Int) == (7 : Int)) (hA.eval (by kernel_rfl)) (fun h45 => ?_) (fun h45 => ?_)
     ·
      have h45 := eq_of_beq h45
      first
      | (exfalso; clear hA hW; omega)
      | (
       refine wp_region_lit <| st_p (vS (some ⟨b28, 0, none⟩) ([(⟨trimC (ofK L (x.g)), A25, c26⟩ : SV)] : List SV).length ([(⟨trimC (ofK L (x.g)), A25, c26⟩ : SV)] : List SV).length) hA fun ac hA => st_q (vA #[vI .u64 en, vS A_L L.length c_L, vS A_Q Q.length c_Q]) hA hW.cls (rl b1 0 3) fun ac hA => st_p (pA b3 6) hA fun ac hA => st_q (vI .i64 x.obj) hA hW.cls (rl b3 6 2) fun ac hA => st_s hA (Runs.call (fun _ => by kernel_rfl) (e_kthing4 (en) A_L c_L L A_Q c_Q Q (10) (x.obj) w29 ((hW).getG 6 rfl) (by first | assumption | omega | (simp; omega) | simp) ((hW).getG 5 rfl) hk_L ((hW).getG 4 rfl) (by first | assumption | omega | (simp; omega) | simp) ((hW).getG 3 rfl) hk_Q (by first | omega | assumption | exact ⟨by omega, by omega⟩ | exact hok.srt | exact hok.cL | exact hok.cQ) (by first | omega | assumption | exact ⟨by omega, by omega⟩ | exact hok.srt | exact hok.cL | exact hok.cQ) (by first | omega | assumption | exact ⟨by omega, by omega⟩ | exact hok.srt | exact hok.cL | exact hok.cQ) (by first | omega | assumption | exact ⟨by omega, by omega⟩ | exact hok.srt | exact hok.cL | exact hok.cQ) (by first | omega | assumption | exact ⟨by omega, by omega⟩ | exact hok.srt | exact hok.cL | exact hok.cQ) (by first | omega | assumption | exact ⟨by omega, by omega⟩ | exact hok.srt | exact hok.cL | exact hok.cQ)) ?_)
       rintro _ w46 ⟨Aow47, cow48, rfl, hccow48, hfcow48, hfw46⟩; refine ⟨_, rfl, ?_⟩; have hW0 := hW; have hW := hW0.call hfw46
       have hW := hW0.addFromAt hW hfcow48 (in_cons (in_at 6 rfl) (in_cons (in_at 5 rfl) (in_cons (in_at 4 rfl) (in_cons (in_at 3 rfl) in_nil))))
       have hscow48 : Res.src (roR Aow47 1 enU8 (thK Q (10) (x.obj))) [roR A_L 2 enOne4 L, nestR innerOne4 L, roR A_Q 3 enThg4 Q, nestR innerThg4 Q] w := src_call hfcow48 (srcs_cons (src_arg (.head _)) (srcs_cons (src_arg (.tail _ (.head _))) (srcs_cons (src_arg (.tail _ (.tail _ (.head _)))) (srcs_cons (src_arg (.tail _ (.tail _ (.tail _ (.head _))))) srcs_nil)))) hW0.fr.size
       clear hW0 hA ac; intro ac hA
       refine st_s hA (Runs.cells (fun b => vS (some ⟨b, 0, none⟩) 1 1) #[vS Aow47 (thK Q (10) (x.obj)).length cow48] 34 (fun _ => by kernel_rfl) hW ?_); clear hA ac hW; intro b49 w50 hW hb49 hfw50 ac hA
       have hcq51 : (thK Q (10) (x.obj)).length ≤ cow48 := (by first | assumption | omega | (simp; omega) | simp)
       have hW := Ws.nestCons (inner := innerSV) hW 3 rfl (⟨thK Q (10) (x.obj), Aow47, cow48⟩ : SV) (hW.getG 0 rfl) (fun _ hb_ => ⟨_, List.mem_of_getElem? (i := 0) rfl, hb_⟩)
       have hknq52 : ∀ x_ ∈ ([(⟨thK Q (10) (x.obj), Aow47, cow48⟩ : SV)] : List SV), capSV x_ := all_cons hcq51 hknq30
       have hsnq52 : Res.src (nestR innerSV ([(⟨thK Q (10) (x.obj), Aow47, cow48⟩ : SV)] : List SV)) [roR A_L 2 enOne4 L, nestR innerOne4 L, roR A_Q 3 enThg4 Q, nestR innerThg4 Q] w := nsrc_cons hscow48 hsnq30
       have hW := hW.nestApp 2 0 rfl rfl
       have hknq53 : ∀ x_ ∈ (([(⟨trimC (ofK L (x.g)), A25, c26⟩ : SV)] : List SV) ++ ([(⟨thK Q (10) (x.obj), Aow47, cow48⟩ : SV)] : List SV)), capSV x_ := all_app hknq32 hknq52
       have hsnq53 : Res.src (nestR innerSV (([(⟨trimC (ofK L (x.g)), A25, c26⟩ : SV)] : List SV) ++ ([(⟨thK Q (10) (x.obj), Aow47, cow48⟩ : SV)] : List SV))) [roR A_L 2 enOne4 L, nestR innerOne4 L, roR A_Q 3 enThg4 Q, nestR innerThg4 Q] w := nsrc_app hsnq32 hsnq52
       refine st_s hA (Runs.appOwn (B := (some ⟨b49, 0, none⟩)) (k := 1) (E := 34) (sz := 1) (en := enSV) (l := ([(⟨trimC (ofK L (x.g)), A25, c26⟩ : SV)] : List SV)) (m := ([(⟨thK Q (10) (x.obj), Aow47, cow48⟩ : SV)] : List SV)) (i := 1) (by kernel_rfl) (by kernel_rfl) elt_SV (by kernel_rfl) hW rfl (rowAt_cel ((hW).cel 0 rfl) ([(⟨thK Q (10) (x.obj), Aow47, cow48⟩ : SV)] : List SV) (by rfl) elt_SV.len) (by first | omega | (simp; done) | (simp; omega)) (by first | omega | (simp; done) | (simp; omega)) ?_); clear hA ac hW; intro A54 c55 w56 hW hcc55 ac hA
       refine st_p (vS A54 (([(⟨trimC (ofK L (x.g)), A25, c26⟩ : SV)] : List SV) ++ ([(⟨thK Q (10) (x.obj), Aow47, cow48⟩ : SV)] : List SV)).length c55) hA ?_; clear hA ac; intro ac hA
       refine wpList_nil <| blkN ?_
       exact ⟨([(⟨trimC (ofK L (x.g)), A25, c26⟩ : SV)] : List SV) ++ ([(⟨thK Q (10) (x.obj), Aow47, cow48⟩ : SV)] : List SV), A54, c55, by show trimC (joinC (joinC [] (trimC (ofK L x.g))) (thK Q 10 x.obj)) = _; rw [hok.of, hok.t]; exact DOk.acc1 (by rw [show x.kind = 7 from by omega]; rfl), by simp, by intro y_ hy_; rcases List.mem_append.1 hy_ with hy_ | hy_; (rw [List.mem_singleton.1 hy_]; exact hlof_); (rw [List.mem_singleton.1 hy_]; exact hlth_ _ _), by exact (own_cap ((hW).get 1 rfl)), by exact hknq53, by exact hsnq53, hA.sub (by and_intros <;> first | kernel_rfl | trivial), (hW.pick [1, 2, 3, 4] (by decide) rfl).pickG [0, 6, 7, 8, 9] rfl⟩)
     have h45 := ne_of_beq_false h45
     first
     | (exfalso; clear hA hW; omega)
     | (
      refine wr <| st_p (vB ((x.kind : Int) == (9 : Int))) hA fun ac hA => st_p (vB ((x.kind : Int) == (9 : Int))) hA fun ac hA => wn <| wp_cond_split (t := (x.kind : Int) == (9 : Int)) (hA.eval (by kernel_rfl)) (fun h57 => ?_) (fun h57 => ?_)
      ·
       have h57 := eq_of_beq h57
       first
       | (exfalso; clear hA hW; omega)
       | (
        refine wp_cut (fun ac_ wl_ => ∃ Aowr17_4 : Option Addr, ∃ Aowr17_8 : Option Addr, ∃ Ar17_10 : Option Addr, ∃ br17_9 : Nat, ∃ cowr17_4 : Nat, ∃ cowr17_8 : Nat, ∃ cr17_10 : Nat, ((thK Q (10) (x.obj)).length ≤ cowr17_4) ∧ ((thK Q (8) (x.obj)).length ≤ cowr17_8) ∧ ((([(⟨trimC (ofK L (x.g)), A25, c26⟩ : SV)] : List SV) ++ ([(⟨thK Q (10) (x.obj), Aowr17_4, cowr17_4⟩ : SV), (⟨thK Q (8) (x.obj), Aowr17_8, cowr17_8⟩ : SV)] : List SV)).length ≤ cr17_10) ∧ (∀ x_ ∈ ([(⟨thK Q (8) (x.obj), Aowr17_8, cowr17_8⟩ : SV)] : List SV), capSV x_) ∧ (∀ x_ ∈ ([(⟨thK Q (10) (x.obj), Aowr17_4, cowr17_4⟩ : SV), (⟨thK Q (8) (x.obj), Aowr17_8, cowr17_8⟩ : SV)] : List SV), capSV x_) ∧ (∀ x_ ∈ (([(⟨trimC (ofK L (x.g)), A25, c26⟩ : SV)] : List SV) ++ ([(⟨thK Q (10) (x.obj), Aowr17_4, cowr17_4⟩ : SV), (⟨thK Q (8) (x.obj), Aowr17_8, cowr17_8⟩ : SV)] : List SV)), capSV x_) ∧ (Res.src (roR Aowr17_4 1 enU8 (thK Q (10) (x.obj))) [roR A_L 2 enOne4 L, nestR innerOne4 L, roR A_Q 3 enThg4 Q, nestR innerThg4 Q] w) ∧ (Res.src (roR Aowr17_8 1 enU8 (thK Q (8) (x.obj))) [roR A_L 2 enOne4 L, nestR innerOne4 L, roR A_Q 3 enThg4 Q, nestR innerThg4 Q] w) ∧ (Res.src (nestR innerSV ([(⟨thK Q (8) (x.obj), Aowr17_8, cowr17_8⟩ : SV)] : List SV)) [roR A_L 2 enOne4 L, nestR innerOne4 L, roR A_Q 3 enThg4 Q, nestR innerThg4 Q] w) ∧ (Res.src (nestR innerSV ([(⟨thK Q (10) (x.obj), Aowr17_4, cowr17_4⟩ : SV), (⟨thK Q (8) (x.obj), Aowr17_8, cowr17_8⟩ : SV)] : List SV)) [roR A_L 2 enOne4 L, nestR innerOne4 L, roR A_Q 3 enThg4 Q, nestR innerThg4 Q] w) ∧ (Res.src (nestR innerSV (([(⟨trimC (ofK L (x.g)), A25, c26⟩ : SV)] : List SV) ++ ([(⟨thK Q (10) (x.obj), Aowr17_4, cowr17_4⟩ : SV), (⟨thK Q (8) (x.obj), Aowr17_8, cowr17_8⟩ : SV)] : List SV))) [roR A_L 2 enOne4 L, nestR innerOne4 L, roR A_Q 3 enThg4 Q, nestR innerThg4 Q] w) ∧ Fm 150 [] [(2, pA b1 0), (3, pA b3 0), (4, pA b5 0), (7, vI .i64 x.kind), (8, vS Ar17_10 (([(⟨trimC (ofK L (x.g)), A25, c26⟩ : SV)] : List SV) ++ ([(⟨thK Q (10) (x.obj), Aowr17_4, cowr17_4⟩ : SV), (⟨thK Q (8) (x.obj), Aowr17_8, cowr17_8⟩ : SV)] : List SV)).length cr17_10), (47, vA #[vI .u64 en, vS A_L L.length c_L, vS A_Q Q.length c_Q]), (48, pA b3 0), (49, vI .i64 x.g), (50, vS A25 (trimC (ofK L (x.g))).length c26), (51, vS (some ⟨b28, 0, none⟩) 1 1), (52, vI .i64 x.kind), (53, vB ((x.kind : Int) == (5 : Int))), (54, vB ((x.kind : Int) == (5 : Int))), (62, vB ((x.kind : Int) == (7 : Int))), (63, vB ((x.kind : Int) == (7 : Int))), (71, vB ((x.kind : Int) == (9 : Int))), (72, vB ((x.kind : Int) == (9 : Int)))] ac_ ∧ Ws w No [Cel br17_9 #[vS Aowr17_4 (thK Q (10) (x.obj)).length cowr17_4, vS Aowr17_8 (thK Q (8) (x.obj)).length cowr17_8] 34, rowR 34 1 enSV (vS Ar17_10 (([(⟨trimC (ofK L (x.g)), A25, c26⟩ : SV)] : List SV) ++ ([(⟨thK Q (10) (x.obj), Aowr17_4, cowr17_4⟩ : SV), (⟨thK Q (8) (x.obj), Aowr17_8, cowr17_8⟩ : SV)] : List SV)).length cr17_10) (([(⟨trimC (ofK L (x.g)), A25, c26⟩ : SV)] : List SV) ++ ([(⟨thK Q (10) (x.obj), Aowr17_4, cowr17_4⟩ : SV), (⟨thK Q (8) (x.obj), Aowr17_8, cowr17_8⟩ : SV)] : List SV)), Cel b5 #[vI .u64 0, vS none 0 0, vS none 0 0] 61, Cel b3 #[vI .i64 x.g, vI .i64 x.kind, vI .i64 x.site.f, vI .i64 x.site.pc, vI .u32 x.addr, vI .i64 x.child, vI .i64 x.obj, vI .i64 x.n, vI .i64 x.trap] 42, Cel b1 #[vI .u64 en, vS A_L L.length c_L, vS A_Q Q.length c_Q] 61] [nestR innerSV (([(⟨trimC (ofK L (x.g)), A25, c26⟩ : SV)] : List SV) ++ ([(⟨thK Q (10) (x.obj), Aowr17_4, cowr17_4⟩ : SV), (⟨thK Q (8) (x.obj), Aowr17_8, cowr17_8⟩ : SV)] : List SV)), nestR innerSV ([(⟨thK Q (10) (x.obj), Aowr17_4, cowr17_4⟩ : SV), (⟨thK Q (8) (x.obj), Aowr17_8, cowr17_8⟩ : SV)] : List SV), nestR innerSV ([(⟨thK Q (8) (x.obj), Aowr17_8, cowr17_8⟩ : SV)] : List SV), roR Aowr17_8 1 enU8 (thK Q (8) (x.obj)), roR Aowr17_4 1 enU8 (thK Q (10) (x.obj)), nestR innerSV ([(⟨trimC (ofK L (x.g)), A25, c26⟩ : SV)] : List SV), rowR 29 1 enU8 (vS A25 (trimC (ofK L (x.g))).length c26) (trimC (ofK L (x.g))), nestR innerSV ([] : List SV), nestR innerThg4 Q, roR A_Q 3 enThg4 Q, nestR innerOne4 L, roR A_L 2 enOne4 L] wl_) ?_ ?_
        · refine sr_region (m := 12) (C := Ws w No [rowR 34 1 enSV (vS (some ⟨b28, 0, none⟩) ([(⟨trimC (ofK L (x.g)), A25, c26⟩ : SV)] : List SV).length ([(⟨trimC (ofK L (x.g)), A25, c26⟩ : SV)] : List SV).length) ([(⟨trimC (ofK L (x.g)), A25, c26⟩ : SV)] : List SV), Cel b5 #[vI .u64 0, vS none 0 0, vS none 0 0] 61, Cel b3 #[vI .i64 x.g, vI .i64 x.kind, vI .i64 x.site.f, vI .i64 x.site.pc, vI .u32 x.addr, vI .i64 x.child, vI .i64 x.obj, vI .i64 x.n, vI .i64 x.trap] 42, Cel b1 #[vI .u64 en, vS A_L L.length c_L, vS A_Q Q.length c_Q] 61] [nestR innerSV ([(⟨trimC (ofK L (x.g)), A25, c26⟩ : SV)] : List SV), rowR 29 1 enU8 (vS A25 (trimC (ofK L (x.g))).length c26) (trimC (ofK L (x.g))), nestR innerSV ([] : List SV), nestR innerThg4 Q, roR A_Q 3 enThg4 Q, nestR innerOne4 L, roR A_L 2 enOne4 L]) (fun i => [1, 3, 5, 7].contains i) (fun i => [1, 3, 4, 5, 7].contains i) (fun i => [0, 2, 6, 11].contains i) (by kernel_rfl) (by kernel_rfl) (by kernel_rfl) (by kernel_rfl) hW ?_; clear hW; intro w58 hW hfw58 hR; have hC : Ws w No [rowR 34 1 enSV (vS (some ⟨b28, 0, none⟩) ([(⟨trimC (ofK L (x.g)), A25, c26⟩ : SV)] : List SV).length ([(⟨trimC (ofK L (x.g)), A25, c26⟩ : SV)] : List SV).length) ([(⟨trimC (ofK L (x.g)), A25, c26⟩ : SV)] : List SV), Cel b5 #[vI .u64 0, vS none 0 0, vS none 0 0] 61, Cel b3 #[vI .i64 x.g, vI .i64 x.kind, vI .i64 x.site.f, vI .i64 x.site.pc, vI .u32 x.addr, vI .i64 x.child, vI .i64 x.obj, vI .i64 x.n, vI .i64 x.trap] 42, Cel b1 #[vI .u64 en, vS A_L L.length c_L, vS A_Q Q.length c_Q] 61] [nestR innerSV ([(⟨trimC (ofK L (x.g)), A25, c26⟩ : SV)] : List SV), rowR 29 1 enU8 (vS A25 (trimC (ofK L (x.g))).length c26) (trimC (ofK L (x.g))), nestR innerSV ([] : List SV), nestR innerThg4 Q, roR A_Q 3 enThg4 Q, nestR innerOne4 L, roR A_L 2 enOne4 L] w58 := hW.pick [0, 1, 2, 3] (by decide) rfl
          refine sr_p 0 (vS (some ⟨b28, 0, none⟩) ([(⟨trimC (ofK L (x.g)), A25, c26⟩ : SV)] : List SV).length ([(⟨trimC (ofK L (x.g)), A25, c26⟩ : SV)] : List SV).length) hR rfl hA fun ac hA => sr_t 1 (vA #[vI .u64 en, vS A_L L.length c_L, vS A_Q Q.length c_Q]) hR rfl hA hC (Rd.load (b := b1) (i := 0) (by kernel_rfl) (fun _ hw => (hw).cel 3 rfl) (by kernel_rfl)) fun ac hA => sr_p 2 (pA b3 6) hR rfl hA fun ac hA => sr_t 3 (vI .i64 x.obj) hR rfl hA hC (Rd.load (b := b3) (i := 6) (by kernel_rfl) (fun _ hw => (hw).cel 2 rfl) (by kernel_rfl)) fun ac hA => sr_t 5 (vA #[vI .u64 en, vS A_L L.length c_L, vS A_Q Q.length c_Q]) hR rfl hA hC (Rd.load (b := b1) (i := 0) (by kernel_rfl) (fun _ hw => (hw).cel 3 rfl) (by kernel_rfl)) fun ac hA => sr_p 6 (pA b3 6) hR rfl hA fun ac hA => sr_t 7 (vI .i64 x.obj) hR rfl hA hC (Rd.load (b := b3) (i := 6) (by kernel_rfl) (fun _ hw => (hw).cel 2 rfl) (by kernel_rfl)) fun ac hA => sr_one (i := 4) (by kernel_rfl) (sr_d rfl hA (Runs.call (fun _ => by kernel_rfl) (e_kthing4 (en) A_L c_L L A_Q c_Q Q (10) (x.obj) w58 ((hW).getG 6 rfl) (by first | assumption | omega | (simp; omega) | simp) ((hW).getG 5 rfl) hk_L ((hW).getG 4 rfl) (by first | assumption | omega | (simp; omega) | simp) ((hW).getG 3 rfl) hk_Q (by first | omega | assumption | exact ⟨by omega, by omega⟩ | exact hok.srt | exact hok.cL | exact hok.cQ) (by first | omega | assumption | exact ⟨by omega, by omega⟩ | exact hok.srt | exact hok.cL | exact hok.cQ) (by first | omega | assumption | exact ⟨by omega, by omega⟩ | exact hok.srt | exact hok.cL | exact hok.cQ) (by first | omega | assumption | exact ⟨by omega, by omega⟩ | exact hok.srt | exact hok.cL | exact hok.cQ) (by first | omega | assumption | exact ⟨by omega, by omega⟩ | exact hok.srt | exact hok.cL | exact hok.cQ) (by first | omega | assumption | exact ⟨by omega, by omega⟩ | exact hok.srt | exact hok.cL | exact hok.cQ)) ?_))
          rintro _ w59 ⟨Aowr17_4, cowr17_4, rfl, hccowr17_4, hfcowr17_4, hfw59⟩; refine ⟨_, rfl, ?_⟩; have hW0 := hW; have hW := hW0.call hfw59
          have hW := hW0.addFromAt hW hfcowr17_4 (in_cons (in_at 6 rfl) (in_cons (in_at 5 rfl) (in_cons (in_at 4 rfl) (in_cons (in_at 3 rfl) in_nil))))
          have hscowr17_4 : Res.src (roR Aowr17_4 1 enU8 (thK Q (10) (x.obj))) [roR A_L 2 enOne4 L, nestR innerOne4 L, roR A_Q 3 enThg4 Q, nestR innerThg4 Q] w := src_call hfcowr17_4 (srcs_cons (src_arg (.head _)) (srcs_cons (src_arg (.tail _ (.head _))) (srcs_cons (src_arg (.tail _ (.tail _ (.head _)))) (srcs_cons (src_arg (.tail _ (.tail _ (.tail _ (.head _))))) srcs_nil)))) hW0.fr.size
          clear hW0 hA ac; intro ac hA
          refine ⟨⟨fun _ => (hW.pick [0, 1, 2, 3] (by decide) rfl).pickG [1, 2, 3, 4, 5, 6, 7] rfl, fun h => absurd h (by decide)⟩, ?_⟩; have hC : Ws w No [rowR 34 1 enSV (vS (some ⟨b28, 0, none⟩) ([(⟨trimC (ofK L (x.g)), A25, c26⟩ : SV)] : List SV).length ([(⟨trimC (ofK L (x.g)), A25, c26⟩ : SV)] : List SV).length) ([(⟨trimC (ofK L (x.g)), A25, c26⟩ : SV)] : List SV), Cel b5 #[vI .u64 0, vS none 0 0, vS none 0 0] 61, Cel b3 #[vI .i64 x.g, vI .i64 x.kind, vI .i64 x.site.f, vI .i64 x.site.pc, vI .u32 x.addr, vI .i64 x.child, vI .i64 x.obj, vI .i64 x.n, vI .i64 x.trap] 42, Cel b1 #[vI .u64 en, vS A_L L.length c_L, vS A_Q Q.length c_Q] 61] [nestR innerSV ([(⟨trimC (ofK L (x.g)), A25, c26⟩ : SV)] : List SV), rowR 29 1 enU8 (vS A25 (trimC (ofK L (x.g))).length c26) (trimC (ofK L (x.g))), nestR innerSV ([] : List SV), nestR innerThg4 Q, roR A_Q 3 enThg4 Q, nestR innerOne4 L, roR A_L 2 enOne4 L] w59 := (hW.pick [0, 1, 2, 3] (by decide) rfl).pickG [1, 2, 3, 4, 5, 6, 7] rfl
          refine sr_one (i := 8) (by kernel_rfl) (sr_d rfl hA (Runs.call (fun _ => by kernel_rfl) (e_kthing4 (en) A_L c_L L A_Q c_Q Q (8) (x.obj) w59 ((hW).getG 7 rfl) (by first | assumption | omega | (simp; omega) | simp) ((hW).getG 6 rfl) hk_L ((hW).getG 5 rfl) (by first | assumption | omega | (simp; omega) | simp) ((hW).getG 4 rfl) hk_Q (by first | omega | assumption | exact ⟨by omega, by omega⟩ | exact hok.srt | exact hok.cL | exact hok.cQ) (by first | omega | assumption | exact ⟨by omega, by omega⟩ | exact hok.srt | exact hok.cL | exact hok.cQ) (by first | omega | assumption | exact ⟨by omega, by omega⟩ | exact hok.srt | exact hok.cL | exact hok.cQ) (by first | omega | assumption | exact ⟨by omega, by omega⟩ | exact hok.srt | exact hok.cL | exact hok.cQ) (by first | omega | assumption | exact ⟨by omega, by omega⟩ | exact hok.srt | exact hok.cL | exact hok.cQ) (by first | omega | assumption | exact ⟨by omega, by omega⟩ | exact hok.srt | exact hok.cL | exact hok.cQ)) ?_))
          rintro _ w60 ⟨Aowr17_8, cowr17_8, rfl, hccowr17_8, hfcowr17_8, hfw60⟩; refine ⟨_, rfl, ?_⟩; have hW0 := hW; have hW := hW0.call hfw60
          have hW := hW0.addFromAt hW hfcowr17_8 (in_cons (in_at 7 rfl) (in_cons (in_at 6 rfl) (in_cons (in_at 5 rfl) (in_cons (in_at 4 rfl) in_nil))))
          have hscowr17_8 : Res.src (roR Aowr17_8 1 enU8 (thK Q (8) (x.obj))) [roR A_L 2 enOne4 L, nestR innerOne4 L, roR A_Q 3 enThg4 Q, nestR innerThg4 Q] w := src_call hfcowr17_8 (srcs_cons (src_arg (.head _)) (srcs_cons (src_arg (.tail _ (.head _))) (srcs_cons (src_arg (.tail _ (.tail _ (.head _)))) (srcs_cons (src_arg (.tail _ (.tail _ (.tail _ (.head _))))) srcs_nil)))) hW0.fr.size
          clear hW0 hA ac; intro ac hA
          refine qn <| sr_one (i := 9) (by kernel_rfl) (sr_d rfl hA (Runs.cells (fun b => vS (some ⟨b, 0, none⟩) 2 2) #[vS Aowr17_4 (thK Q (10) (x.obj)).length cowr17_4, vS Aowr17_8 (thK Q (8) (x.obj)).length cowr17_8] 34 (fun _ => by kernel_rfl) hW ?_)); clear hA ac hW; intro br17_9 w61 hW hbr17_9 hfw61 ac hA
          refine qn ?_
          have hcq62 : (thK Q (8) (x.obj)).length ≤ cowr17_8 := (by first | assumption | omega | (simp; omega) | simp)
          have hW := Ws.nestCons (inner := innerSV) hW 4 rfl (⟨thK Q (8) (x.obj), Aowr17_8, cowr17_8⟩ : SV) (hW.getG 0 rfl) (fun _ hb_ => ⟨_, List.mem_of_getElem? (i := 0) rfl, hb_⟩)
          have hknq17_10 : ∀ x_ ∈ ([(⟨thK Q (8) (x.obj), Aowr17_8, cowr17_8⟩ : SV)] : List SV), capSV x_ := all_cons hcq62 hknq30
          have hsnq17_10 : Res.src (nestR innerSV ([(⟨thK Q (8) (x.obj), Aowr17_8, cowr17_8⟩ : SV)] : List SV)) [roR A_L 2 enOne4 L, nestR innerOne4 L, roR A_Q 3 enThg4 Q, nestR innerThg4 Q] w := nsrc_cons hscowr17_8 hsnq30
          have hcq63 : (thK Q (10) (x.obj)).length ≤ cowr17_4 := (by first | assumption | omega | (simp; omega) | simp)
          have hW := Ws.nestCons (inner := innerSV) hW 0 rfl (⟨thK Q (10) (x.obj), Aowr17_4, cowr17_4⟩ : SV) (hW.getG 2 rfl) (fun _ hb_ => ⟨_, List.mem_of_getElem? (i := 2) rfl, hb_⟩)
          have hknq17_10x1 : ∀ x_ ∈ ([(⟨thK Q (10) (x.obj), Aowr17_4, cowr17_4⟩ : SV), (⟨thK Q (8) (x.obj), Aowr17_8, cowr17_8⟩ : SV)] : List SV), capSV x_ := all_cons hcq63 hknq17_10
          have hsnq17_10x1 : Res.src (nestR innerSV ([(⟨thK Q (10) (x.obj), Aowr17_4, cowr17_4⟩ : SV), (⟨thK Q (8) (x.obj), Aowr17_8, cowr17_8⟩ : SV)] : List SV)) [roR A_L 2 enOne4 L, nestR innerOne4 L, roR A_Q 3 enThg4 Q, nestR innerThg4 Q] w := nsrc_cons hscowr17_4 hsnq17_10
          have hW := hW.nestApp 4 0 rfl rfl
          have hknq17_10x2 : ∀ x_ ∈ (([(⟨trimC (ofK L (x.g)), A25, c26⟩ : SV)] : List SV) ++ ([(⟨thK Q (10) (x.obj), Aowr17_4, cowr17_4⟩ : SV), (⟨thK Q (8) (x.obj), Aowr17_8, cowr17_8⟩ : SV)] : List SV)), capSV x_ := all_app hknq32 hknq17_10x1
          have hsnq17_10x2 : Res.src (nestR innerSV (([(⟨trimC (ofK L (x.g)), A25, c26⟩ : SV)] : List SV) ++ ([(⟨thK Q (10) (x.obj), Aowr17_4, cowr17_4⟩ : SV), (⟨thK Q (8) (x.obj), Aowr17_8, cowr17_8⟩ : SV)] : List SV))) [roR A_L 2 enOne4 L, nestR innerOne4 L, roR A_Q 3 enThg4 Q, nestR innerThg4 Q] w := nsrc_app hsnq32 hsnq17_10x1
          refine sr_one (i := 10) (by kernel_rfl) (sr_d rfl hA (Runs.appOwn (B := (some ⟨br17_9, 0, none⟩)) (k := 2) (E := 34) (sz := 1) (en := enSV) (l := ([(⟨trimC (ofK L (x.g)), A25, c26⟩ : SV)] : List SV)) (m := ([(⟨thK Q (10) (x.obj), Aowr17_4, cowr17_4⟩ : SV), (⟨thK Q (8) (x.obj), Aowr17_8, cowr17_8⟩ : SV)] : List SV)) (i := 1) (by kernel_rfl) (by kernel_rfl) elt_SV (by kernel_rfl) hW rfl (rowAt_cel ((hW).cel 0 rfl) ([(⟨thK Q (10) (x.obj), Aowr17_4, cowr17_4⟩ : SV), (⟨thK Q (8) (x.obj), Aowr17_8, cowr17_8⟩ : SV)] : List SV) (by rfl) elt_SV.len) (by first | omega | (simp; done) | (simp; omega)) (by first | omega | (simp; done) | (simp; omega)) ?_)); clear hA ac hW; intro Ar17_10 cr17_10 w64 hW hccr17_10 ac hA
          refine qn <| sr_p 11 (vS Ar17_10 (([(⟨trimC (ofK L (x.g)), A25, c26⟩ : SV)] : List SV) ++ ([(⟨thK Q (10) (x.obj), Aowr17_4, cowr17_4⟩ : SV), (⟨thK Q (8) (x.obj), Aowr17_8, cowr17_8⟩ : SV)] : List SV)).length cr17_10) hR rfl hA ?_; clear hA ac; intro ac hA
          refine sr_done (by kernel_rfl) ?_ _
          exact ⟨Aowr17_4, Aowr17_8, Ar17_10, br17_9, cowr17_4, cowr17_8, cr17_10, hccowr17_4, hccowr17_8, hccr17_10, hknq17_10, hknq17_10x1, hknq17_10x2, hscowr17_4, hscowr17_8, hsnq17_10, hsnq17_10x1, hsnq17_10x2, hA.sub (by and_intros <;> first | kernel_rfl | trivial), (hW.pick [0, 1, 2, 3, 4] (by decide) rfl).pickG [0, 1, 2, 3, 4, 5, 6, 7, 8, 9, 10, 11] rfl⟩
        clear hA ac hW; rintro ac w65 ⟨Aowr17_4, Aowr17_8, Ar17_10, br17_9, cowr17_4, cowr17_8, cr17_10, hccowr17_4, hccowr17_8, hccr17_10, hknq17_10, hknq17_10x1, hknq17_10x2, hscowr17_4, hscowr17_8, hsnq17_10, hsnq17_10x1, hsnq17_10x2, hA, hW⟩
        refine blkN ?_
        exact ⟨([(⟨trimC (ofK L (x.g)), A25, c26⟩ : SV)] : List SV) ++ ([(⟨thK Q (10) (x.obj), Aowr17_4, cowr17_4⟩ : SV), (⟨thK Q (8) (x.obj), Aowr17_8, cowr17_8⟩ : SV)] : List SV), Ar17_10, cr17_10, by show trimC (joinC (joinC (joinC [] (trimC (ofK L x.g))) (thK Q 10 x.obj)) (thK Q 8 x.obj)) = _; rw [hok.of, hok.t, hok.t]; exact hok.acc9 (by omega), by simp, by intro y_ hy_; rcases List.mem_append.1 hy_ with hy_ | hy_; (rw [List.mem_singleton.1 hy_]; exact hlof_); (rcases List.mem_cons.1 hy_ with hy_ | hy_; (rw [hy_]; exact hlth_ _ _); (rw [List.mem_singleton.1 hy_]; exact hlth_ _ _)), by exact (own_cap ((hW).get 1 rfl)), by exact hknq17_10x2, by exact hsnq17_10x2, hA.sub (by and_intros <;> first | kernel_rfl | trivial), (hW.pick [1, 2, 3, 4] (by decide) rfl).pickG [0, 8, 9, 10, 11] rfl⟩)
      have h57 := ne_of_beq_false h57
      first
      | (exfalso; clear hA hW; omega)
      | (
       refine wr <| st_p (vB ((x.kind : Int) == (12 : Int))) hA fun ac hA => st_p (vB ((x.kind : Int) == (12 : Int))) hA fun ac hA => wn <| wp_cond_split (t := (x.kind : Int) == (12 : Int)) (hA.eval (by kernel_rfl)) (fun h66 => ?_) (fun h66 => ?_)
       ·
        have h66 := eq_of_beq h66
        first
        | (exfalso; clear hA hW; omega)
        | (
         refine wp_region_lit <| st_p (vS (some ⟨b28, 0, none⟩) ([(⟨trimC (ofK L (x.g)), A25, c26⟩ : SV)] : List SV).length ([(⟨trimC (ofK L (x.g)), A25, c26⟩ : SV)] : List SV).length) hA fun ac hA => st_q (vA #[vI .u64 en, vS A_L L.length c_L, vS A_Q Q.length c_Q]) hA hW.cls (rl b1 0 3) fun ac hA => st_p (pA b3 6) hA fun ac hA => st_q (vI .i64 x.obj) hA hW.cls (rl b3 6 2) fun ac hA => st_s hA (Runs.call (fun _ => by kernel_rfl) (e_kthing4 (en) A_L c_L L A_Q c_Q Q (11) (x.obj) w29 ((hW).getG 6 rfl) (by first | assumption | omega | (simp; omega) | simp) ((hW).getG 5 rfl) hk_L ((hW).getG 4 rfl) (by first | assumption | omega | (simp; omega) | simp) ((hW).getG 3 rfl) hk_Q (by first | omega | assumption | exact ⟨by omega, by omega⟩ | exact hok.srt | exact hok.cL | exact hok.cQ) (by first | omega | assumption | exact ⟨by omega, by omega⟩ | exact hok.srt | exact hok.cL | exact hok.cQ) (by first | omega | assumption | exact ⟨by omega, by omega⟩ | exact hok.srt | exact hok.cL | exact hok.cQ) (by first | omega | assumption | exact ⟨by omega, by omega⟩ | exact hok.srt | exact hok.cL | exact hok.cQ) (by first | omega | assumption | exact ⟨by omega, by omega⟩ | exact hok.srt | exact hok.cL | exact hok.cQ) (by first | omega | assumption | exact ⟨by omega, by omega⟩ | exact hok.srt | exact hok.cL | exact hok.cQ)) ?_)
         rintro _ w67 ⟨Aow68, cow69, rfl, hccow69, hfcow69, hfw67⟩; refine ⟨_, rfl, ?_⟩; have hW0 := hW; have hW := hW0.call hfw67
         have hW := hW0.addFromAt hW hfcow69 (in_cons (in_at 6 rfl) (in_cons (in_at 5 rfl) (in_cons (in_at 4 rfl) (in_cons (in_at 3 rfl) in_nil))))
         have hscow69 : Res.src (roR Aow68 1 enU8 (thK Q (11) (x.obj))) [roR A_L 2 enOne4 L, nestR innerOne4 L, roR A_Q 3 enThg4 Q, nestR innerThg4 Q] w := src_call hfcow69 (srcs_cons (src_arg (.head _)) (srcs_cons (src_arg (.tail _ (.head _))) (srcs_cons (src_arg (.tail _ (.tail _ (.head _)))) (srcs_cons (src_arg (.tail _ (.tail _ (.tail _ (.head _))))) srcs_nil)))) hW0.fr.size
         clear hW0 hA ac; intro ac hA
         refine st_s hA (Runs.cells (fun b => vS (some ⟨b, 0, none⟩) 1 1) #[vS Aow68 (thK Q (11) (x.obj)).length cow69] 34 (fun _ => by kernel_rfl) hW ?_); clear hA ac hW; intro b70 w71 hW hb70 hfw71 ac hA
         have hcq72 : (thK Q (11) (x.obj)).length ≤ cow69 := (by first | assumption | omega | (simp; omega) | simp)
         have hW := Ws.nestCons (inner := innerSV) hW 3 rfl (⟨thK Q (11) (x.obj), Aow68, cow69⟩ : SV) (hW.getG 0 rfl) (fun _ hb_ => ⟨_, List.mem_of_getElem? (i := 0) rfl, hb_⟩)
         have hknq73 : ∀ x_ ∈ ([(⟨thK Q (11) (x.obj), Aow68, cow69⟩ : SV)] : List SV), capSV x_ := all_cons hcq72 hknq30
         have hsnq73 : Res.src (nestR innerSV ([(⟨thK Q (11) (x.obj), Aow68, cow69⟩ : SV)] : List SV)) [roR A_L 2 enOne4 L, nestR innerOne4 L, roR A_Q 3 enThg4 Q, nestR innerThg4 Q] w := nsrc_cons hscow69 hsnq30
         have hW := hW.nestApp 2 0 rfl rfl
         have hknq74 : ∀ x_ ∈ (([(⟨trimC (ofK L (x.g)), A25, c26⟩ : SV)] : List SV) ++ ([(⟨thK Q (11) (x.obj), Aow68, cow69⟩ : SV)] : List SV)), capSV x_ := all_app hknq32 hknq73
         have hsnq74 : Res.src (nestR innerSV (([(⟨trimC (ofK L (x.g)), A25, c26⟩ : SV)] : List SV) ++ ([(⟨thK Q (11) (x.obj), Aow68, cow69⟩ : SV)] : List SV))) [roR A_L 2 enOne4 L, nestR innerOne4 L, roR A_Q 3 enThg4 Q, nestR innerThg4 Q] w := nsrc_app hsnq32 hsnq73
         refine st_s hA (Runs.appOwn (B := (some ⟨b70, 0, none⟩)) (k := 1) (E := 34) (sz := 1) (en := enSV) (l := ([(⟨trimC (ofK L (x.g)), A25, c26⟩ : SV)] : List SV)) (m := ([(⟨thK Q (11) (x.obj), Aow68, cow69⟩ : SV)] : List SV)) (i := 1) (by kernel_rfl) (by kernel_rfl) elt_SV (by kernel_rfl) hW rfl (rowAt_cel ((hW).cel 0 rfl) ([(⟨thK Q (11) (x.obj), Aow68, cow69⟩ : SV)] : List SV) (by rfl) elt_SV.len) (by first | omega | (simp; done) | (simp; omega)) (by first | omega | (simp; done) | (simp; omega)) ?_); clear hA ac hW; intro A75 c76 w77 hW hcc76 ac hA
         refine st_p (vS A75 (([(⟨trimC (ofK L (x.g)), A25, c26⟩ : SV)] : List SV) ++ ([(⟨thK Q (11) (x.obj), Aow68, cow69⟩ : SV)] : List SV)).length c76) hA ?_; clear hA ac; intro ac hA
         refine wpList_nil <| blkN ?_
         exact ⟨([(⟨trimC (ofK L (x.g)), A25, c26⟩ : SV)] : List SV) ++ ([(⟨thK Q (11) (x.obj), Aow68, cow69⟩ : SV)] : List SV), A75, c76, by show trimC (joinC (joinC [] (trimC (ofK L x.g))) (thK Q 11 x.obj)) = _; rw [hok.of, hok.t]; exact DOk.acc1 (by rw [show x.kind = 12 from by omega]; rfl), by simp, by intro y_ hy_; rcases List.mem_append.1 hy_ with hy_ | hy_; (rw [List.mem_singleton.1 hy_]; exact hlof_); (rw [List.mem_singleton.1 hy_]; exact hlth_ _ _), by exact (own_cap ((hW).get 1 rfl)), by exact hknq74, by exact hsnq74, hA.sub (by and_intros <;> first | kernel_rfl | trivial), (hW.pick [1, 2, 3, 4] (by decide) rfl).pickG [0, 6, 7, 8, 9] rfl⟩)
       have h66 := ne_of_beq_false h66
       first
       | (exfalso; clear hA hW; omega)
       | (
        refine wp_skip <| blkN ?_
        exact ⟨([(⟨trimC (ofK L (x.g)), A25, c26⟩ : SV)] : List SV), (some ⟨b28, 0, none⟩), ([(⟨trimC (ofK L (x.g)), A25, c26⟩ : SV)] : List SV).length, by show trimC (joinC [] (trimC (ofK L x.g))) = _; rw [hok.of]; exact hok.acc0 (by omega) (by omega) (by omega) (by omega), by simp, by intro y_ hy_; rw [List.mem_singleton.1 hy_]; exact hlof_, by exact (own_cap ((hW).get 0 rfl)), by exact hknq32, by exact hsnq32, hA.sub (by and_intros <;> first | kernel_rfl | trivial), (hW.pick [0, 1, 2, 3] (by decide) rfl).pickG [0, 3, 4, 5, 6] rfl⟩))))
   clear hA ac hW; rintro ac w78 ⟨m, A, cc, hm, hml, hmx, hcm, hkM, hsM, hA, hW⟩
   refine thenN <| wr <| st_p (vS A m.length cc) hA ?_; clear hA ac; intro ac hA
   refine st_s hA (Runs.callRow (E := 29) (sz := 1) (en := enU8) (l := (trimC (foldJ m))) (fun _ => by kernel_rfl) hW (e_r4join A cc m w78 (rowR_at ((hW).get 0 rfl) elt_SV.len) (own_cap ((hW).get 0 rfl)) ((hW).getG 0 rfl) hkM (by first | omega | assumption | exact ⟨by omega, by omega⟩ | exact hok.srt | exact hok.cL | exact hok.cQ) (fun y_ hy_ => Nat.le_trans (hmx y_ hy_) (by decide))) ?_); clear hA ac hW; intro A80 c81 w79 hW hcc81 hfw79 ac hA
   refine st_p (vS A80 (trimC (foldJ m)).length c81) hA ?_; clear hA ac; intro ac hA
   refine wn <| wp_seq ?_
   rw [hm] at hW hA hcc81
   have hkl_ := hkb_.1.1; have hkg_ := getC_bd hkb_.1.2 (by omega) x.g; have hkc_ := getC_bd hkb_.1.2 (by omega) x.child; have hkv_ : vecOk (kacc ks x) = true := bd_vec hkb_.1 (by omega)
   refine wp_region_lit <| st_q (vA #[vI .u64 en, vS A_L L.length c_L, vS A_Q Q.length c_Q]) hA hW.cls (rl b1 0 4) fun ac hA => st_p (pA b3 0) hA fun ac hA => st_q (vI .i64 x.g) hA hW.cls (rl b3 0 3) fun ac hA => st_p (vS A80 (kacc ks x).length c81) hA fun ac hA => ?_
   have hsro_row82 : Res.src (roR A80 1 enU8 (kacc ks x)) [roR A_L 2 enOne4 L, nestR innerOne4 L, roR A_Q 3 enThg4 Q, nestR innerThg4 Q] w := fun b_ hb_ => .inr ((hW.may _ (List.mem_of_getElem? (i := 0) rfl) b_ (rowR_fp b_ hb_)).resolve_left (fun h_ => h_))
   have hW := hW.share 0 rfl (H' := [rowR 34 1 enSV (vS A m.length cc) m, Cel b5 #[vI .u64 0, vS none 0 0, vS none 0 0] 61, Cel b3 #[vI .i64 x.g, vI .i64 x.kind, vI .i64 x.site.f, vI .i64 x.site.pc, vI .u32 x.addr, vI .i64 x.child, vI .i64 x.obj, vI .i64 x.n, vI .i64 x.trap] 42, Cel b1 #[vI .u64 en, vS A_L L.length c_L, vS A_Q Q.length c_Q] 61]) rfl
   have hW := hW.nestG (roR A80 1 enU8 (kacc ks x)) (rowR_at (E := 29) (hW.getG 0 rfl) elt_U8.len) (fun _ hb_ => ⟨_, List.mem_of_getElem? (i := 0) rfl, rowR_fp _ hb_⟩)
   refine st_s hA (Runs.call (fun _ => by kernel_rfl) (e_kwith (en) A_L c_L L A_Q c_Q Q (x.g) A80 c81 (kacc ks x) w79 ((hW).getG 6 rfl) (by first | assumption | omega | (simp; omega) | simp) ((hW).getG 5 rfl) hk_L ((hW).getG 4 rfl) (by first | assumption | omega | (simp; omega) | simp) ((hW).getG 3 rfl) hk_Q ((hW).getG 0 rfl) (by first | assumption | omega | (simp; omega) | simp) (by first | omega | assumption | exact ⟨by omega, by omega⟩ | exact hok.srt | exact hok.cL | exact hok.cQ) (by first | omega | assumption | exact ⟨by omega, by omega⟩ | exact hok.srt | exact hok.cL | exact hok.cQ) (by first | omega | assumption | exact ⟨by omega, by omega⟩ | exact hok.srt | exact hok.cL | exact hok.cQ) (by first | omega | assumption | exact ⟨by omega, by omega⟩ | exact hok.srt | exact hok.cL | exact hok.cQ) (by first | omega | assumption | exact ⟨by omega, by omega⟩ | exact hok.srt | exact hok.cL | exact hok.cQ) (by first | omega | assumption | exact ⟨by omega, by omega⟩ | exact hok.srt | exact hok.cL | exact hok.cQ) (by first | omega | assumption | exact ⟨by omega, by omega⟩ | exact hok.srt | exact hok.cL | exact hok.cQ)) ?_)
   rintro _ w83 ⟨g84, AoL85, coL86, AoQ87, coQ88, rfl, hw83_hL, hccoL86, hccoQ88, hkcoL86, hkcoQ88, hfcoL86, hfcoQ88, hnfcoL86, hnfcoQ88, hfw83⟩; refine ⟨_, rfl, ?_⟩; have hW0 := hW; have hW := hW0.call hfw83
   have hW := hW0.addFromAt hW hfcoL86 (in_cons (in_at 6 rfl) (in_cons (in_at 5 rfl) (in_cons (in_at 4 rfl) (in_cons (in_at 3 rfl) (in_cons (in_at 0 rfl) in_nil)))))
   have hscoL86 : Res.src (roR AoL85 2 enOne4 g84) [roR A_L 2 enOne4 L, nestR innerOne4 L, roR A_Q 3 enThg4 Q, nestR innerThg4 Q] w := src_call hfcoL86 (srcs_cons (src_arg (.head _)) (srcs_cons (src_arg (.tail _ (.head _))) (srcs_cons (src_arg (.tail _ (.tail _ (.head _)))) (srcs_cons (src_arg (.tail _ (.tail _ (.tail _ (.head _))))) (srcs_cons hsro_row82 srcs_nil))))) hW0.fr.size
   have hW := hW0.addFromAt hW hfcoQ88 (in_cons (in_at 6 rfl) (in_cons (in_at 5 rfl) (in_cons (in_at 4 rfl) (in_cons (in_at 3 rfl) (in_cons (in_at 0 rfl) in_nil)))))
   have hscoQ88 : Res.src (roR AoQ87 3 enThg4 Q) [roR A_L 2 enOne4 L, nestR innerOne4 L, roR A_Q 3 enThg4 Q, nestR innerThg4 Q] w := src_call hfcoQ88 (srcs_cons (src_arg (.head _)) (srcs_cons (src_arg (.tail _ (.head _))) (srcs_cons (src_arg (.tail _ (.tail _ (.head _)))) (srcs_cons (src_arg (.tail _ (.tail _ (.tail _ (.head _))))) (srcs_cons hsro_row82 srcs_nil))))) hW0.fr.size
   have hW := hW0.addFromAt hW hnfcoL86 (in_cons (in_at 6 rfl) (in_cons (in_at 5 rfl) (in_cons (in_at 4 rfl) (in_cons (in_at 3 rfl) (in_cons (in_at 0 rfl) in_nil)))))
   have hsncoL86 : Res.src (nestR innerOne4 g84) [roR A_L 2 enOne4 L, nestR innerOne4 L, roR A_Q 3 enThg4 Q, nestR innerThg4 Q] w := src_call hnfcoL86 (srcs_cons (src_arg (.head _)) (srcs_cons (src_arg (.tail _ (.head _))) (srcs_cons (src_arg (.tail _ (.tail _ (.head _)))) (srcs_cons (src_arg (.tail _ (.tail _ (.tail _ (.head _))))) (srcs_cons hsro_row82 srcs_nil))))) hW0.fr.size
   have hW := hW0.addFromAt hW hnfcoQ88 (in_cons (in_at 6 rfl) (in_cons (in_at 5 rfl) (in_cons (in_at 4 rfl) (in_cons (in_at 3 rfl) (in_cons (in_at 0 rfl) in_nil)))))
   have hsncoQ88 : Res.src (nestR innerThg4 Q) [roR A_L 2 enOne4 L, nestR innerOne4 L, roR A_Q 3 enThg4 Q, nestR innerThg4 Q] w := src_call hnfcoQ88 (srcs_cons (src_arg (.head _)) (srcs_cons (src_arg (.tail _ (.head _))) (srcs_cons (src_arg (.tail _ (.tail _ (.head _)))) (srcs_cons (src_arg (.tail _ (.tail _ (.tail _ (.head _))))) (srcs_cons hsro_row82 srcs_nil))))) hW0.fr.size
   clear hW0 hA ac; intro ac hA
   refine st_s hA (Runs.store (v := vA #[vI .u64 (en), vS AoL85 g84.length coL86, vS AoQ87 Q.length coQ88]) (b := b1) (j := 0) (n := 3) (cs' := #[vI .u64 (en), vS AoL85 g84.length coL86, vS AoQ87 Q.length coQ88]) (H' := [rowR 34 1 enSV (vS A m.length cc) m, Cel b5 #[vI .u64 0, vS none 0 0, vS none 0 0] 61, Cel b3 #[vI .i64 x.g, vI .i64 x.kind, vI .i64 x.site.f, vI .i64 x.site.pc, vI .u32 x.addr, vI .i64 x.child, vI .i64 x.obj, vI .i64 x.n, vI .i64 x.trap] 42, Cel b1 #[vI .u64 (en), vS AoL85 g84.length coL86, vS AoQ87 Q.length coQ88] 61]) (by kernel_rfl) (by kernel_rfl) (by kernel_rfl) (by kernel_rfl) (by kernel_rfl) hW 3 (by rfl) (Nat.le_of_ble_eq_true (by kernel_rfl)) (by kernel_rfl) (by rfl) ?_); clear hA ac hW; intro w89 hW ac hA
   refine wn <| wp_seq ?_
   obtain ⟨u1, huw1, huc1, huL1⟩ := hw83_hL
   have hnl1 : g84.length ≤ L.length + 1 := by rw [huL1]; exact with_len _ _ _
   have hsr1 : g84.Pairwise (fun a b => a.w < b.w) := by rw [huL1]; exact with_srt huw1 hok.srt
   have hcl1 : ∀ y ∈ g84, y.cl.length ≤ 65536 := by rw [huL1]; exact with_cl hok.cL (by rw [huc1]; exact hkl_)
   have hpk_ : packOk x.g (getC (kacc ks x) x.g) = true := decide_eq_true (by omega)
   refine q_region (by kernel_rfl) (by kernel_rfl) hW <| sq_p (pA b3 0) hA fun ac hA => sq_q (vI .i64 x.g) hA (rl b3 0 2) fun ac hA => sq_p (vS A80 (kacc ks x).length c81) hA fun ac hA => sq_p (pA b3 0) hA fun ac hA => sq_q (vI .i64 x.g) hA (rl b3 0 2) fun ac hA => sq_call (v := vI .u64 (getC (kacc ks x) (x.g))) hA (by kernel_rfl) (by kernel_rfl) (by kernel_rfl) (fun _ => by kernel_rfl) (Cls.callNC fun wx hwx => e_r4get A80 c81 (kacc ks x) (x.g) wx (rowR_at (E := 29) ((hwx.1).getG 5 rfl) elt_U8.len) (own_cap (E := 29) (sz := 1) (en := enU8) ((hwx.1).getG 5 rfl)) (by first | omega | assumption | exact ⟨by omega, by omega⟩ | exact hok.srt | exact hok.cL | exact hok.cQ)) ?_; clear hA ac; intro ac hA
   refine sq_call (v := vT #[vI .u64 (packV (x.g) (getC (kacc ks x) (x.g))), vI .i64 (argErr (packOk (x.g) (getC (kacc ks x) (x.g))))]) hA (by kernel_rfl) (by kernel_rfl) (by kernel_rfl) (fun _ => by kernel_rfl) (Cls.callNC fun wx hwx => e_r3pack (x.g) (getC (kacc ks x) (x.g)) wx (by first | omega | assumption | exact ⟨by omega, by omega⟩ | exact hok.srt | exact hok.cL | exact hok.cQ) (by first | omega | assumption | exact ⟨by omega, by omega⟩ | exact hok.srt | exact hok.cL | exact hok.cQ)) ?_; clear hA ac; intro ac hA
   refine sq_p (vT #[vI .u64 (packV (x.g) (getC (kacc ks x) (x.g))), vI .i64 (argErr (packOk (x.g) (getC (kacc ks x) (x.g))))]) hA fun ac hA => sq_p (vI .u64 (packV (x.g) (getC (kacc ks x) (x.g)))) hA fun ac hA => sq_p (vI .i64 (argErr (packOk (x.g) (getC (kacc ks x) (x.g))))) hA fun ac hA => sq_p (vI .u64 (packV (x.g) (getC (kacc ks x) (x.g)))) hA fun ac hA => sq_p (vI .i64 (argErr (packOk (x.g) (getC (kacc ks x) (x.g))))) hA fun ac hA => sq_nil ?_; intro w90 hww90; have hW := hww90.1; have hfw90 := hww90.2; clear hww90
   refine thenN <| wp_seq <| wr <| st_q (vA #[vI .i64 x.g, vI .i64 x.kind, vI .i64 x.site.f, vI .i64 x.site.pc, vI .u32 x.addr, vI .i64 x.child, vI .i64 x.obj, vI .i64 x.n, vI .i64 x.trap]) hA hW.cls (rl b3 0 2) ?_; clear hA ac; intro ac hA
   refine st_s hA (Runs.callN (v := vB (evRel x)) (fun _ => by kernel_rfl) hW (e_r16rel x w90) ?_); clear hA ac hW; intro w91 hW hfw91 ac hA
   refine st_p (vB (!(evRel x))) hA ?_; clear hA ac; intro ac hA
   refine wn <| wp_cond_split (t := !(evRel x)) (hA.eval (by kernel_rfl)) (fun h92 => ?_) (fun h92 => ?_)
   ·
    have h92 := not_t h92
    first
    | (exfalso; clear hA hW; omega)
    | (
     refine wr <| st_q (vA #[vI .u64 (en), vS AoL85 g84.length coL86, vS AoQ87 Q.length coQ88]) hA hW.cls (rl b1 0 3) fun ac hA => st_p (vI .u64 (packV (x.g) (getC (kacc ks x) (x.g)))) hA fun ac hA => st_s hA (Runs.store (v := vA #[vI .u64 (en), vS AoL85 g84.length coL86, vS AoQ87 Q.length coQ88]) (b := b5) (j := 0) (n := 3) (cs' := #[vI .u64 (en), vS AoL85 g84.length coL86, vS AoQ87 Q.length coQ88]) (H' := [rowR 34 1 enSV (vS A m.length cc) m, Cel b5 #[vI .u64 (en), vS AoL85 g84.length coL86, vS AoQ87 Q.length coQ88] 61, Cel b3 #[vI .i64 x.g, vI .i64 x.kind, vI .i64 x.site.f, vI .i64 x.site.pc, vI .u32 x.addr, vI .i64 x.child, vI .i64 x.obj, vI .i64 x.n, vI .i64 x.trap] 42, Cel b1 #[vI .u64 (en), vS AoL85 g84.length coL86, vS AoQ87 Q.length coQ88] 61]) (by kernel_rfl) (by kernel_rfl) (by kernel_rfl) (by kernel_rfl) (by kernel_rfl) hW 1 (by rfl) (Nat.le_of_ble_eq_true (by kernel_rfl)) (by kernel_rfl) (by rfl) ?_); clear hA ac hW; intro w93 hW ac hA
     refine st_p (vI .u64 (packV (x.g) (getC (kacc ks x) (x.g)))) hA fun ac hA => st_p (vI .i64 0) hA fun ac hA => wn <| wp_ret <| thenR <| ret3 (v1 := vA #[vI .u64 (en), vS AoL85 g84.length coL86, vS AoQ87 Q.length coQ88]) (v2 := vI .u64 (packV (x.g) (getC (kacc ks x) (x.g)))) (v3 := vI .i64 0) (by rfl) hA (Got.cell (b := b5) (i := 0) hA (by kernel_rfl) (by kernel_rfl) (hW.cel 1 rfl) (by kernel_rfl)) (Got.tmp hA (by kernel_rfl) (by kernel_rfl)) (Got.tmp hA (by kernel_rfl) (by kernel_rfl)) ?_
     clear hA
     exact ⟨comeS ks x, packV (x.g) (getC (kacc ks x) (x.g)), 0, g84, Q, AoL85, coL86, AoQ87, coQ88, by first | rfl | (simp; done), by exact come_ok hce_ rfl (show packV x.g (getC (kacc ks x) x.g) = comeAt ks x from by unfold packV; rw [hpk_]; rfl), by rw [huL1]; exact hok.come1 hxo_ (of_decide_eq_false (show evRel x = false from by first | exact h92 | simpa using h92)) huw1 huc1, (by first | assumption | omega | (simp; omega) | simp), (by first | assumption | omega | (simp; omega) | simp), hkcoL86, hkcoQ88, (hW.outSrc 3 rfl hscoL86), (hW.outSrc 2 rfl hscoQ88), (hW.outSrc 1 rfl hsncoL86), (hW.outSrc 0 rfl hsncoQ88), hW.fr⟩)
   have h92 := not_f h92
   first
   | (exfalso; clear hA hW; omega)
   | (
    refine wp_skip <| thenN <| wp_seq <| wr <| st_p (vI .i64 x.kind) hA fun ac hA => st_p (vB ((x.kind : Int) == (4 : Int))) hA fun ac hA => wn <| wp_cond_split (t := (x.kind : Int) == (4 : Int)) (hA.eval (by kernel_rfl)) (fun h94 => ?_) (fun h94 => ?_)
    ·
     have h94 := eq_of_beq h94
     first
     | (exfalso; clear hA hW; omega)
     | (
      refine wp_seq ?_
      have htc_ := tick_good (id := x.child) hkb_.1 (by omega) (by omega); have htcl_ := htc_.1.1
      have htg_ := tick_good (id := x.g) hkb_.1 (by omega) (by omega); have htgl_ := htg_.1.1; have hgf_ : getC (kacc ks x) x.g < en := by rw [hown hxb_]; exact hxf_ (of_decide_eq_true h92)
      refine wp_region_lit <| st_p (vS A80 (kacc ks x).length c81) hA fun ac hA => st_p (pA b3 5) hA fun ac hA => st_q (vI .i64 x.child) hA hW.cls (rl b3 5 2) fun ac hA => st_s hA (Runs.call (fun _ => by kernel_rfl) (e_r4tick A80 c81 (kacc ks x) (x.child) (281474976710655) w91 ((hW).getG 4 rfl) (by first | assumption | omega | (simp; omega) | simp) (by first | omega | assumption | exact ⟨by omega, by omega⟩ | exact hok.srt | exact hok.cL | exact hok.cQ) (by first | omega | assumption | exact ⟨by omega, by omega⟩ | exact hok.srt | exact hok.cL | exact hok.cQ) (by first | omega | assumption | exact ⟨by omega, by omega⟩ | exact hok.srt | exact hok.cL | exact hok.cQ) (by first | omega | assumption | exact ⟨by omega, by omega⟩ | exact hok.srt | exact hok.cL | exact hok.cQ) (by first | omega | assumption | exact ⟨by omega, by omega⟩ | exact hok.srt | exact hok.cL | exact hok.cQ) (by first | omega | assumption | exact ⟨by omega, by omega⟩ | exact hok.srt | exact hok.cL | exact hok.cQ)) ?_)
      rintro _ w95 ⟨g96, Ao97, co98, rfl, hw95_hO, hcco98, hfco98, hfw95⟩; refine ⟨_, rfl, ?_⟩; have hW0 := hW; have hW := hW0.call hfw95
      have hW := hW0.addFromAt hW hfco98 (in_cons (in_at 4 rfl) in_nil)
      have hsco98 : Res.src (roR Ao97 1 enU8 g96) [roR A_L 2 enOne4 L, nestR innerOne4 L, roR A_Q 3 enThg4 Q, nestR innerThg4 Q] w := src_call hfco98 (srcs_cons hsro_row82 srcs_nil) hW0.fr.size
      clear hW0 hA ac; intro ac hA
      refine st_p (vT #[vS Ao97 g96.length co98, vI .i64 0]) hA fun ac hA => st_p (vS Ao97 g96.length co98) hA fun ac hA => st_p (vI .i64 0) hA fun ac hA => st_p (vS Ao97 g96.length co98) hA fun ac hA => st_p (vI .i64 0) hA fun ac hA => wn ?_
      have htl1_ : g96.length ≤ 65536 := by rw [hw95_hO]; exact htcl_
      refine wp_region_lit <| st_q (vA #[vI .u64 (en), vS AoL85 g84.length coL86, vS AoQ87 Q.length coQ88]) hA hW.cls (rl b1 0 3) fun ac hA => st_p (pA b3 5) hA fun ac hA => st_q (vI .i64 x.child) hA hW.cls (rl b3 5 2) fun ac hA => st_p (vS Ao97 g96.length co98) hA fun ac hA => st_s hA (Runs.call (fun _ => by kernel_rfl) (e_kwith ((en)) AoL85 coL86 g84 AoQ87 coQ88 Q (x.child) Ao97 co98 g96 w95 ((hW).getG 4 rfl) (by first | assumption | omega | (simp; omega) | simp) ((hW).getG 2 rfl) hkcoL86 ((hW).getG 3 rfl) (by first | assumption | omega | (simp; omega) | simp) ((hW).getG 1 rfl) hkcoQ88 ((hW).getG 0 rfl) (by first | assumption | omega | (simp; omega) | simp) (by first | omega | assumption | exact ⟨by omega, by omega⟩ | exact hok.srt | exact hok.cL | exact hok.cQ) (by first | omega | assumption | exact ⟨by omega, by omega⟩ | exact hok.srt | exact hok.cL | exact hok.cQ) (by first | omega | assumption | exact ⟨by omega, by omega⟩ | exact hok.srt | exact hok.cL | exact hok.cQ) (by first | omega | assumption | exact ⟨by omega, by omega⟩ | exact hok.srt | exact hok.cL | exact hok.cQ) (by first | omega | assumption | exact ⟨by omega, by omega⟩ | exact hok.srt | exact hok.cL | exact hok.cQ) (by first | omega | assumption | exact ⟨by omega, by omega⟩ | exact hok.srt | exact hok.cL | exact hok.cQ) (by first | omega | assumption | exact ⟨by omega, by omega⟩ | exact hok.srt | exact hok.cL | exact hok.cQ)) ?_)
      rintro _ w99 ⟨g100, AoL101, coL102, AoQ103, coQ104, rfl, hw99_hL, hccoL102, hccoQ104, hkcoL102, hkcoQ104, hfcoL102, hfcoQ104, hnfcoL102, hnfcoQ104, hfw99⟩; refine ⟨_, rfl, ?_⟩; have hW0 := hW; have hW := hW0.call hfw99
      have hW := hW0.addFromAt hW hfcoL102 (in_cons (in_at 4 rfl) (in_cons (in_at 2 rfl) (in_cons (in_at 3 rfl) (in_cons (in_at 1 rfl) (in_cons (in_at 0 rfl) in_nil)))))
      have hscoL102 : Res.src (roR AoL101 2 enOne4 g100) [roR A_L 2 enOne4 L, nestR innerOne4 L, roR A_Q 3 enThg4 Q, nestR innerThg4 Q] w := src_call hfcoL102 (srcs_cons hscoL86 (srcs_cons hsncoL86 (srcs_cons hscoQ88 (srcs_cons hsncoQ88 (srcs_cons hsco98 srcs_nil))))) hW0.fr.size
      have hW := hW0.addFromAt hW hfcoQ104 (in_cons (in_at 4 rfl) (in_cons (in_at 2 rfl) (in_cons (in_at 3 rfl) (in_cons (in_at 1 rfl) (in_cons (in_at 0 rfl) in_nil)))))
      have hscoQ104 : Res.src (roR AoQ103 3 enThg4 Q) [roR A_L 2 enOne4 L, nestR innerOne4 L, roR A_Q 3 enThg4 Q, nestR innerThg4 Q] w := src_call hfcoQ104 (srcs_cons hscoL86 (srcs_cons hsncoL86 (srcs_cons hscoQ88 (srcs_cons hsncoQ88 (srcs_cons hsco98 srcs_nil))))) hW0.fr.size
      have hW := hW0.addFromAt hW hnfcoL102 (in_cons (in_at 4 rfl) (in_cons (in_at 2 rfl) (in_cons (in_at 3 rfl) (in_cons (in_at 1 rfl) (in_cons (in_at 0 rfl) in_nil)))))
      have hsncoL102 : Res.src (nestR innerOne4 g100) [roR A_L 2 enOne4 L, nestR innerOne4 L, roR A_Q 3 enThg4 Q, nestR innerThg4 Q] w := src_call hnfcoL102 (srcs_cons hscoL86 (srcs_cons hsncoL86 (srcs_cons hscoQ88 (srcs_cons hsncoQ88 (srcs_cons hsco98 srcs_nil))))) hW0.fr.size
      have hW := hW0.addFromAt hW hnfcoQ104 (in_cons (in_at 4 rfl) (in_cons (in_at 2 rfl) (in_cons (in_at 3 rfl) (in_cons (in_at 1 rfl) (in_cons (in_at 0 rfl) in_nil)))))
      have hsncoQ104 : Res.src (nestR innerThg4 Q) [roR A_L 2 enOne4 L, nestR innerOne4 L, roR A_Q 3 enThg4 Q, nestR innerThg4 Q] w := src_call hnfcoQ104 (srcs_cons hscoL86 (srcs_cons hsncoL86 (srcs_cons hscoQ88 (srcs_cons hsncoQ88 (srcs_cons hsco98 srcs_nil))))) hW0.fr.size
      clear hW0 hA ac; intro ac hA
      refine st_s hA (Runs.store (v := vA #[vI .u64 ((en)), vS AoL101 g100.length coL102, vS AoQ103 Q.length coQ104]) (b := b1) (j := 0) (n := 3) (cs' := #[vI .u64 ((en)), vS AoL101 g100.length coL102, vS AoQ103 Q.length coQ104]) (H' := [rowR 34 1 enSV (vS A m.length cc) m, Cel b5 #[vI .u64 0, vS none 0 0, vS none 0 0] 61, Cel b3 #[vI .i64 x.g, vI .i64 x.kind, vI .i64 x.site.f, vI .i64 x.site.pc, vI .u32 x.addr, vI .i64 x.child, vI .i64 x.obj, vI .i64 x.n, vI .i64 x.trap] 42, Cel b1 #[vI .u64 ((en)), vS AoL101 g100.length coL102, vS AoQ103 Q.length coQ104] 61]) (by kernel_rfl) (by kernel_rfl) (by kernel_rfl) (by kernel_rfl) (by kernel_rfl) hW 3 (by rfl) (Nat.le_of_ble_eq_true (by kernel_rfl)) (by kernel_rfl) (by rfl) ?_); clear hA ac hW; intro w105 hW ac hA
      refine wn <| wp_seq ?_
      obtain ⟨u2, huw2, huc2, huL2⟩ := hw99_hL
      have hnl2 : g100.length ≤ g84.length + 1 := by rw [huL2]; exact with_len _ _ _
      have hsr2 : g100.Pairwise (fun a b => a.w < b.w) := by rw [huL2]; exact with_srt huw2 hsr1
      have hcl2 : ∀ y ∈ g100, y.cl.length ≤ 65536 := by rw [huL2]; exact with_cl hcl1 (by rw [huc2]; exact htl1_)
      refine wp_region_lit <| st_p (vS A80 (kacc ks x).length c81) hA fun ac hA => st_p (pA b3 0) hA fun ac hA => st_q (vI .i64 x.g) hA hW.cls (rl b3 0 2) fun ac hA => st_p (pA b1 0) hA fun ac hA => st_q (vI .u64 ((en))) hA hW.cls (rl b1 0 3) fun ac hA => st_s hA (Runs.call (fun _ => by kernel_rfl) (e_r4tick A80 c81 (kacc ks x) (x.g) (((en))) w105 ((hW).getG 9 rfl) (by first | assumption | omega | (simp; omega) | simp) (by first | omega | assumption | exact ⟨by omega, by omega⟩ | exact hok.srt | exact hok.cL | exact hok.cQ) (by first | omega | assumption | exact ⟨by omega, by omega⟩ | exact hok.srt | exact hok.cL | exact hok.cQ) (by first | omega | assumption | exact ⟨by omega, by omega⟩ | exact hok.srt | exact hok.cL | exact hok.cQ) (by first | omega | assumption | exact ⟨by omega, by omega⟩ | exact hok.srt | exact hok.cL | exact hok.cQ) (by first | omega | assumption | exact ⟨by omega, by omega⟩ | exact hok.srt | exact hok.cL | exact hok.cQ) (by first | omega | assumption | exact ⟨by omega, by omega⟩ | exact hok.srt | exact hok.cL | exact hok.cQ)) ?_)
      rintro _ w106 ⟨g107, Ao108, co109, rfl, hw106_hO, hcco109, hfco109, hfw106⟩; refine ⟨_, rfl, ?_⟩; have hW0 := hW; have hW := hW0.call hfw106
      have hW := hW0.addFromAt hW hfco109 (in_cons (in_at 9 rfl) in_nil)
      have hsco109 : Res.src (roR Ao108 1 enU8 g107) [roR A_L 2 enOne4 L, nestR innerOne4 L, roR A_Q 3 enThg4 Q, nestR innerThg4 Q] w := src_call hfco109 (srcs_cons hsro_row82 srcs_nil) hW0.fr.size
      clear hW0 hA ac; intro ac hA
      refine st_p (vT #[vS Ao108 g107.length co109, vI .i64 0]) hA fun ac hA => st_p (vS Ao108 g107.length co109) hA fun ac hA => st_p (vI .i64 0) hA fun ac hA => st_p (vS Ao108 g107.length co109) hA fun ac hA => st_p (vI .i64 0) hA fun ac hA => wn <| wp_seq ?_
      have htl2_ : g107.length ≤ 65536 := by rw [hw106_hO]; exact htgl_
      refine wp_region_lit <| st_q (vA #[vI .u64 ((en)), vS AoL101 g100.length coL102, vS AoQ103 Q.length coQ104]) hA hW.cls (rl b1 0 3) fun ac hA => st_p (pA b3 0) hA fun ac hA => st_q (vI .i64 x.g) hA hW.cls (rl b3 0 2) fun ac hA => st_p (vS Ao108 g107.length co109) hA fun ac hA => st_s hA (Runs.call (fun _ => by kernel_rfl) (e_kwith (((en))) AoL101 coL102 g100 AoQ103 coQ104 Q (x.g) Ao108 co109 g107 w106 ((hW).getG 4 rfl) (by first | assumption | omega | (simp; omega) | simp) ((hW).getG 2 rfl) hkcoL102 ((hW).getG 3 rfl) (by first | assumption | omega | (simp; omega) | simp) ((hW).getG 1 rfl) hkcoQ104 ((hW).getG 0 rfl) (by first | assumption | omega | (simp; omega) | simp) (by first | omega | assumption | exact ⟨by omega, by omega⟩ | exact hok.srt | exact hok.cL | exact hok.cQ) (by first | omega | assumption | exact ⟨by omega, by omega⟩ | exact hok.srt | exact hok.cL | exact hok.cQ) (by first | omega | assumption | exact ⟨by omega, by omega⟩ | exact hok.srt | exact hok.cL | exact hok.cQ) (by first | omega | assumption | exact ⟨by omega, by omega⟩ | exact hok.srt | exact hok.cL | exact hok.cQ) (by first | omega | assumption | exact ⟨by omega, by omega⟩ | exact hok.srt | exact hok.cL | exact hok.cQ) (by first | omega | assumption | exact ⟨by omega, by omega⟩ | exact hok.srt | exact hok.cL | exact hok.cQ) (by first | omega | assumption | exact ⟨by omega, by omega⟩ | exact hok.srt | exact hok.cL | exact hok.cQ)) ?_)
      rintro _ w110 ⟨g111, AoL112, coL113, AoQ114, coQ115, rfl, hw110_hL, hccoL113, hccoQ115, hkcoL113, hkcoQ115, hfcoL113, hfcoQ115, hnfcoL113, hnfcoQ115, hfw110⟩; refine ⟨_, rfl, ?_⟩; have hW0 := hW; have hW := hW0.call hfw110
      have hW := hW0.addFromAt hW hfcoL113 (in_cons (in_at 4 rfl) (in_cons (in_at 2 rfl) (in_cons (in_at 3 rfl) (in_cons (in_at 1 rfl) (in_cons (in_at 0 rfl) in_nil)))))
      have hscoL113 : Res.src (roR AoL112 2 enOne4 g111) [roR A_L 2 enOne4 L, nestR innerOne4 L, roR A_Q 3 enThg4 Q, nestR innerThg4 Q] w := src_call hfcoL113 (srcs_cons hscoL102 (srcs_cons hsncoL102 (srcs_cons hscoQ104 (srcs_cons hsncoQ104 (srcs_cons hsco109 srcs_nil))))) hW0.fr.size
      have hW := hW0.addFromAt hW hfcoQ115 (in_cons (in_at 4 rfl) (in_cons (in_at 2 rfl) (in_cons (in_at 3 rfl) (in_cons (in_at 1 rfl) (in_cons (in_at 0 rfl) in_nil)))))
      have hscoQ115 : Res.src (roR AoQ114 3 enThg4 Q) [roR A_L 2 enOne4 L, nestR innerOne4 L, roR A_Q 3 enThg4 Q, nestR innerThg4 Q] w := src_call hfcoQ115 (srcs_cons hscoL102 (srcs_cons hsncoL102 (srcs_cons hscoQ104 (srcs_cons hsncoQ104 (srcs_cons hsco109 srcs_nil))))) hW0.fr.size
      have hW := hW0.addFromAt hW hnfcoL113 (in_cons (in_at 4 rfl) (in_cons (in_at 2 rfl) (in_cons (in_at 3 rfl) (in_cons (in_at 1 rfl) (in_cons (in_at 0 rfl) in_nil)))))
      have hsncoL113 : Res.src (nestR innerOne4 g111) [roR A_L 2 enOne4 L, nestR innerOne4 L, roR A_Q 3 enThg4 Q, nestR innerThg4 Q] w := src_call hnfcoL113 (srcs_cons hscoL102 (srcs_cons hsncoL102 (srcs_cons hscoQ104 (srcs_cons hsncoQ104 (srcs_cons hsco109 srcs_nil))))) hW0.fr.size
      have hW := hW0.addFromAt hW hnfcoQ115 (in_cons (in_at 4 rfl) (in_cons (in_at 2 rfl) (in_cons (in_at 3 rfl) (in_cons (in_at 1 rfl) (in_cons (in_at 0 rfl) in_nil)))))
      have hsncoQ115 : Res.src (nestR innerThg4 Q) [roR A_L 2 enOne4 L, nestR innerOne4 L, roR A_Q 3 enThg4 Q, nestR innerThg4 Q] w := src_call hnfcoQ115 (srcs_cons hscoL102 (srcs_cons hsncoL102 (srcs_cons hscoQ104 (srcs_cons hsncoQ104 (srcs_cons hsco109 srcs_nil))))) hW0.fr.size
      clear hW0 hA ac; intro ac hA
      refine st_p (vI .u64 (packV (x.g) (getC (kacc ks x) (x.g)))) hA ?_; clear hA ac; intro ac hA
      refine st_s hA (Runs.store (v := vA #[vI .u64 (((en))), vS AoL112 g111.length coL113, vS AoQ114 Q.length coQ115]) (b := b5) (j := 0) (n := 3) (cs' := #[vI .u64 (((en))), vS AoL112 g111.length coL113, vS AoQ114 Q.length coQ115]) (H' := [rowR 34 1 enSV (vS A m.length cc) m, Cel b5 #[vI .u64 (((en))), vS AoL112 g111.length coL113, vS AoQ114 Q.length coQ115] 61, Cel b3 #[vI .i64 x.g, vI .i64 x.kind, vI .i64 x.site.f, vI .i64 x.site.pc, vI .u32 x.addr, vI .i64 x.child, vI .i64 x.obj, vI .i64 x.n, vI .i64 x.trap] 42, Cel b1 #[vI .u64 ((en)), vS AoL101 g100.length coL102, vS AoQ103 Q.length coQ104] 61]) (by kernel_rfl) (by kernel_rfl) (by kernel_rfl) (by kernel_rfl) (by kernel_rfl) hW 1 (by rfl) (Nat.le_of_ble_eq_true (by kernel_rfl)) (by kernel_rfl) (by rfl) ?_); clear hA ac hW; intro w116 hW ac hA
      refine st_p (vI .u64 (packV (x.g) (getC (kacc ks x) (x.g)))) hA fun ac hA => st_p (vI .i64 0) hA fun ac hA => wn <| wp_ret <| ret3 (v1 := vA #[vI .u64 (((en))), vS AoL112 g111.length coL113, vS AoQ114 Q.length coQ115]) (v2 := vI .u64 (packV (x.g) (getC (kacc ks x) (x.g)))) (v3 := vI .i64 0) (by rfl) hA (Got.cell (b := b5) (i := 0) hA (by kernel_rfl) (by kernel_rfl) (hW.cel 1 rfl) (by kernel_rfl)) (Got.tmp hA (by kernel_rfl) (by kernel_rfl)) (Got.tmp hA (by kernel_rfl) (by kernel_rfl)) ?_
      clear hA
      obtain ⟨u3, huw3, huc3, huL3⟩ := hw110_hL
      have hnl3 : g111.length ≤ g100.length + 1 := by rw [huL3]; exact with_len _ _ _
      have hsr3 : g111.Pairwise (fun a b => a.w < b.w) := by rw [huL3]; exact with_srt huw3 hsr2
      have hcl3 : ∀ y ∈ g111, y.cl.length ≤ 65536 := by rw [huL3]; exact with_cl hcl2 (by rw [huc3]; exact htl2_)
      exact ⟨comeS ks x, packV (x.g) (getC (kacc ks x) (x.g)), 0, g111, Q, AoL112, coL113, AoQ114, coQ115, by first | rfl | (simp; done), by exact come_ok hce_ rfl (show packV x.g (getC (kacc ks x) x.g) = comeAt ks x from by unfold packV; rw [hpk_]; rfl), by rw [huL3, huL2, huL1]; exact hok.come4 hxo_ (by omega) huw1 huc1 huw2 (huc2.trans hw95_hO) huw3 (huc3.trans hw106_hO), (by first | assumption | omega | (simp; omega) | simp), (by first | assumption | omega | (simp; omega) | simp), hkcoL113, hkcoQ115, (hW.outSrc 3 rfl hscoL113), (hW.outSrc 2 rfl hscoQ115), (hW.outSrc 1 rfl hsncoL113), (hW.outSrc 0 rfl hsncoQ115), hW.fr⟩)
    have h94 := ne_of_beq_false h94
    first
    | (exfalso; clear hA hW; omega)
    | (
     have htg_ := tick_good (id := x.g) hkb_.1 (by omega) (by omega); have htgl_ := htg_.1.1; have hgf_ : getC (kacc ks x) x.g < en := by rw [hown hxb_]; exact hxf_ (of_decide_eq_true h92)
     refine wp_region_lit <| st_q (vA #[vI .u64 (en), vS AoL85 g84.length coL86, vS AoQ87 Q.length coQ88]) hA hW.cls (rl b1 0 3) fun ac hA => st_p (vI .i64 x.kind) hA fun ac hA => st_p (pA b3 6) hA fun ac hA => st_q (vI .i64 x.obj) hA hW.cls (rl b3 6 2) fun ac hA => st_p (vS A80 (kacc ks x).length c81) hA fun ac hA => st_s hA (Runs.call (fun _ => by kernel_rfl) (e_krel4 ((en)) AoL85 coL86 g84 AoQ87 coQ88 Q (x.kind) (x.obj) A80 c81 (kacc ks x) w91 ((hW).getG 3 rfl) (by first | assumption | omega | (simp; omega) | simp) ((hW).getG 1 rfl) hkcoL86 ((hW).getG 2 rfl) (by first | assumption | omega | (simp; omega) | simp) ((hW).getG 0 rfl) hkcoQ88 ((hW).getG 4 rfl) (by first | assumption | omega | (simp; omega) | simp) (by first | omega | assumption | exact ⟨by omega, by omega⟩ | exact hok.srt | exact hok.cL | exact hok.cQ) (by first | omega | assumption | exact ⟨by omega, by omega⟩ | exact hok.srt | exact hok.cL | exact hok.cQ) (by first | omega | assumption | exact ⟨by omega, by omega⟩ | exact hok.srt | exact hok.cL | exact hok.cQ) (by first | omega | assumption | exact ⟨by omega, by omega⟩ | exact hok.srt | exact hok.cL | exact hok.cQ) (by first | omega | assumption | exact ⟨by omega, by omega⟩ | exact hok.srt | exact hok.cL | exact hok.cQ) (by first | omega | assumption | exact ⟨by omega, by omega⟩ | exact hok.srt | exact hok.cL | exact hok.cQ) (by first | omega | assumption | exact ⟨by omega, by omega⟩ | exact hok.srt | exact hok.cL | exact hok.cQ)) ?_)
     rintro _ w117 ⟨g118, AoL119, coL120, AoQ121, coQ122, rfl, hw117_hQ, hccoL120, hccoQ122, hkcoL120, hkcoQ122, hfcoL120, hfcoQ122, hnfcoL120, hnfcoQ122, hfw117⟩; refine ⟨_, rfl, ?_⟩; have hW0 := hW; have hW := hW0.call hfw117
     have hW := hW0.addFromAt hW hfcoL120 (in_cons (in_at 3 rfl) (in_cons (in_at 1 rfl) (in_cons (in_at 2 rfl) (in_cons (in_at 0 rfl) (in_cons (in_at 4 rfl) in_nil)))))
     have hscoL120 : Res.src (roR AoL119 2 enOne4 g84) [roR A_L 2 enOne4 L, nestR innerOne4 L, roR A_Q 3 enThg4 Q, nestR innerThg4 Q] w := src_call hfcoL120 (srcs_cons hscoL86 (srcs_cons hsncoL86 (srcs_cons hscoQ88 (srcs_cons hsncoQ88 (srcs_cons hsro_row82 srcs_nil))))) hW0.fr.size
     have hW := hW0.addFromAt hW hfcoQ122 (in_cons (in_at 3 rfl) (in_cons (in_at 1 rfl) (in_cons (in_at 2 rfl) (in_cons (in_at 0 rfl) (in_cons (in_at 4 rfl) in_nil)))))
     have hscoQ122 : Res.src (roR AoQ121 3 enThg4 g118) [roR A_L 2 enOne4 L, nestR innerOne4 L, roR A_Q 3 enThg4 Q, nestR innerThg4 Q] w := src_call hfcoQ122 (srcs_cons hscoL86 (srcs_cons hsncoL86 (srcs_cons hscoQ88 (srcs_cons hsncoQ88 (srcs_cons hsro_row82 srcs_nil))))) hW0.fr.size
     have hW := hW0.addFromAt hW hnfcoL120 (in_cons (in_at 3 rfl) (in_cons (in_at 1 rfl) (in_cons (in_at 2 rfl) (in_cons (in_at 0 rfl) (in_cons (in_at 4 rfl) in_nil)))))
     have hsncoL120 : Res.src (nestR innerOne4 g84) [roR A_L 2 enOne4 L, nestR innerOne4 L, roR A_Q 3 enThg4 Q, nestR innerThg4 Q] w := src_call hnfcoL120 (srcs_cons hscoL86 (srcs_cons hsncoL86 (srcs_cons hscoQ88 (srcs_cons hsncoQ88 (srcs_cons hsro_row82 srcs_nil))))) hW0.fr.size
     have hW := hW0.addFromAt hW hnfcoQ122 (in_cons (in_at 3 rfl) (in_cons (in_at 1 rfl) (in_cons (in_at 2 rfl) (in_cons (in_at 0 rfl) (in_cons (in_at 4 rfl) in_nil)))))
     have hsncoQ122 : Res.src (nestR innerThg4 g118) [roR A_L 2 enOne4 L, nestR innerOne4 L, roR A_Q 3 enThg4 Q, nestR innerThg4 Q] w := src_call hnfcoQ122 (srcs_cons hscoL86 (srcs_cons hsncoL120 (srcs_cons hscoQ88 (srcs_cons hsncoQ88 (srcs_cons hsro_row82 srcs_nil))))) hW0.fr.size
     clear hW0 hA ac; intro ac hA
     refine st_s hA (Runs.store (v := vA #[vI .u64 ((en)), vS AoL119 g84.length coL120, vS AoQ121 g118.length coQ122]) (b := b1) (j := 0) (n := 3) (cs' := #[vI .u64 ((en)), vS AoL119 g84.length coL120, vS AoQ121 g118.length coQ122]) (H' := [rowR 34 1 enSV (vS A m.length cc) m, Cel b5 #[vI .u64 0, vS none 0 0, vS none 0 0] 61, Cel b3 #[vI .i64 x.g, vI .i64 x.kind, vI .i64 x.site.f, vI .i64 x.site.pc, vI .u32 x.addr, vI .i64 x.child, vI .i64 x.obj, vI .i64 x.n, vI .i64 x.trap] 42, Cel b1 #[vI .u64 ((en)), vS AoL119 g84.length coL120, vS AoQ121 g118.length coQ122] 61]) (by kernel_rfl) (by kernel_rfl) (by kernel_rfl) (by kernel_rfl) (by kernel_rfl) hW 3 (by rfl) (Nat.le_of_ble_eq_true (by kernel_rfl)) (by kernel_rfl) (by rfl) ?_); clear hA ac hW; intro w123 hW ac hA
     refine wn <| wp_seq ?_
     obtain ⟨v_, hvk_, hvo_, hvc_, hvQ_⟩ := hw117_hQ
     have hnq1_ : g118.length ≤ Q.length + 1 := by rw [hvQ_]; exact rel_len _ _ _ _
     have hcq1_ : ∀ y ∈ g118, y.cl.length ≤ 65536 := by rw [hvQ_]; exact rel_cl hok.cQ (by rw [hvc_]; exact (join2_bd (by rw [hok.t]; exact (hok.tb _ _).1) hkb_.1).1)
     refine wp_region_lit <| st_p (vS A80 (kacc ks x).length c81) hA fun ac hA => st_p (pA b3 0) hA fun ac hA => st_q (vI .i64 x.g) hA hW.cls (rl b3 0 2) fun ac hA => st_p (pA b1 0) hA fun ac hA => st_q (vI .u64 ((en))) hA hW.cls (rl b1 0 3) fun ac hA => st_s hA (Runs.call (fun _ => by kernel_rfl) (e_r4tick A80 c81 (kacc ks x) (x.g) (((en))) w123 ((hW).getG 8 rfl) (by first | assumption | omega | (simp; omega) | simp) (by first | omega | assumption | exact ⟨by omega, by omega⟩ | exact hok.srt | exact hok.cL | exact hok.cQ) (by first | omega | assumption | exact ⟨by omega, by omega⟩ | exact hok.srt | exact hok.cL | exact hok.cQ) (by first | omega | assumption | exact ⟨by omega, by omega⟩ | exact hok.srt | exact hok.cL | exact hok.cQ) (by first | omega | assumption | exact ⟨by omega, by omega⟩ | exact hok.srt | exact hok.cL | exact hok.cQ) (by first | omega | assumption | exact ⟨by omega, by omega⟩ | exact hok.srt | exact hok.cL | exact hok.cQ) (by first | omega | assumption | exact ⟨by omega, by omega⟩ | exact hok.srt | exact hok.cL | exact hok.cQ)) ?_)
     rintro _ w124 ⟨g125, Ao126, co127, rfl, hw124_hO, hcco127, hfco127, hfw124⟩; refine ⟨_, rfl, ?_⟩; have hW0 := hW; have hW := hW0.call hfw124
     have hW := hW0.addFromAt hW hfco127 (in_cons (in_at 8 rfl) in_nil)
     have hsco127 : Res.src (roR Ao126 1 enU8 g125) [roR A_L 2 enOne4 L, nestR innerOne4 L, roR A_Q 3 enThg4 Q, nestR innerThg4 Q] w := src_call hfco127 (srcs_cons hsro_row82 srcs_nil) hW0.fr.size
     clear hW0 hA ac; intro ac hA
     refine st_p (vT #[vS Ao126 g125.length co127, vI .i64 0]) hA fun ac hA => st_p (vS Ao126 g125.length co127) hA fun ac hA => st_p (vI .i64 0) hA fun ac hA => st_p (vS Ao126 g125.length co127) hA fun ac hA => st_p (vI .i64 0) hA fun ac hA => wn <| wp_seq ?_
     have htl2_ : g125.length ≤ 65536 := by rw [hw124_hO]; exact htgl_
     refine wp_region_lit <| st_q (vA #[vI .u64 ((en)), vS AoL119 g84.length coL120, vS AoQ121 g118.length coQ122]) hA hW.cls (rl b1 0 3) fun ac hA => st_p (pA b3 0) hA fun ac hA => st_q (vI .i64 x.g) hA hW.cls (rl b3 0 2) fun ac hA => st_p (vS Ao126 g125.length co127) hA fun ac hA => st_s hA (Runs.call (fun _ => by kernel_rfl) (e_kwith (((en))) AoL119 coL120 g84 AoQ121 coQ122 g118 (x.g) Ao126 co127 g125 w124 ((hW).getG 4 rfl) (by first | assumption | omega | (simp; omega) | simp) ((hW).getG 2 rfl) hkcoL120 ((hW).getG 3 rfl) (by first | assumption | omega | (simp; omega) | simp) ((hW).getG 1 rfl) hkcoQ122 ((hW).getG 0 rfl) (by first | assumption | omega | (simp; omega) | simp) (by first | omega | assumption | exact ⟨by omega, by omega⟩ | exact hok.srt | exact hok.cL | exact hok.cQ) (by first | omega | assumption | exact ⟨by omega, by omega⟩ | exact hok.srt | exact hok.cL | exact hok.cQ) (by first | omega | assumption | exact ⟨by omega, by omega⟩ | exact hok.srt | exact hok.cL | exact hok.cQ) (by first | omega | assumption | exact ⟨by omega, by omega⟩ | exact hok.srt | exact hok.cL | exact hok.cQ) (by first | omega | assumption | exact ⟨by omega, by omega⟩ | exact hok.srt | exact hok.cL | exact hok.cQ) (by first | omega | assumption | exact ⟨by omega, by omega⟩ | exact hok.srt | exact hok.cL | exact hok.cQ) (by first | omega | assumption | exact ⟨by omega, by omega⟩ | exact hok.srt | exact hok.cL | exact hok.cQ)) ?_)
     rintro _ w128 ⟨g129, AoL130, coL131, AoQ132, coQ133, rfl, hw128_hL, hccoL131, hccoQ133, hkcoL131, hkcoQ133, hfcoL131, hfcoQ133, hnfcoL131, hnfcoQ133, hfw128⟩; refine ⟨_, rfl, ?_⟩; have hW0 := hW; have hW := hW0.call hfw128
     have hW := hW0.addFromAt hW hfcoL131 (in_cons (in_at 4 rfl) (in_cons (in_at 2 rfl) (in_cons (in_at 3 rfl) (in_cons (in_at 1 rfl) (in_cons (in_at 0 rfl) in_nil)))))
     have hscoL131 : Res.src (roR AoL130 2 enOne4 g129) [roR A_L 2 enOne4 L, nestR innerOne4 L, roR A_Q 3 enThg4 Q, nestR innerThg4 Q] w := src_call hfcoL131 (srcs_cons hscoL120 (srcs_cons hsncoL120 (srcs_cons hscoQ122 (srcs_cons hsncoQ122 (srcs_cons hsco127 srcs_nil))))) hW0.fr.size
     have hW := hW0.addFromAt hW hfcoQ133 (in_cons (in_at 4 rfl) (in_cons (in_at 2 rfl) (in_cons (in_at 3 rfl) (in_cons (in_at 1 rfl) (in_cons (in_at 0 rfl) in_nil)))))
     have hscoQ133 : Res.src (roR AoQ132 3 enThg4 g118) [roR A_L 2 enOne4 L, nestR innerOne4 L, roR A_Q 3 enThg4 Q, nestR innerThg4 Q] w := src_call hfcoQ133 (srcs_cons hscoL120 (srcs_cons hsncoL120 (srcs_cons hscoQ122 (srcs_cons hsncoQ122 (srcs_cons hsco127 srcs_nil))))) hW0.fr.size
     have hW := hW0.addFromAt hW hnfcoL131 (in_cons (in_at 4 rfl) (in_cons (in_at 2 rfl) (in_cons (in_at 3 rfl) (in_cons (in_at 1 rfl) (in_cons (in_at 0 rfl) in_nil)))))
     have hsncoL131 : Res.src (nestR innerOne4 g129) [roR A_L 2 enOne4 L, nestR innerOne4 L, roR A_Q 3 enThg4 Q, nestR innerThg4 Q] w := src_call hnfcoL131 (srcs_cons hscoL120 (srcs_cons hsncoL120 (srcs_cons hscoQ122 (srcs_cons hsncoQ122 (srcs_cons hsco127 srcs_nil))))) hW0.fr.size
     have hW := hW0.addFromAt hW hnfcoQ133 (in_cons (in_at 4 rfl) (in_cons (in_at 2 rfl) (in_cons (in_at 3 rfl) (in_cons (in_at 1 rfl) (in_cons (in_at 0 rfl) in_nil)))))
     have hsncoQ133 : Res.src (nestR innerThg4 g118) [roR A_L 2 enOne4 L, nestR innerOne4 L, roR A_Q 3 enThg4 Q, nestR innerThg4 Q] w := src_call hnfcoQ133 (srcs_cons hscoL120 (srcs_cons hsncoL120 (srcs_cons hscoQ122 (srcs_cons hsncoQ122 (srcs_cons hsco127 srcs_nil))))) hW0.fr.size
     clear hW0 hA ac; intro ac hA
     refine st_p (vI .u64 (packV (x.g) (getC (kacc ks x) (x.g)))) hA ?_; clear hA ac; intro ac hA
     refine st_s hA (Runs.store (v := vA #[vI .u64 (((en))), vS AoL130 g129.length coL131, vS AoQ132 g118.length coQ133]) (b := b5) (j := 0) (n := 3) (cs' := #[vI .u64 (((en))), vS AoL130 g129.length coL131, vS AoQ132 g118.length coQ133]) (H' := [rowR 34 1 enSV (vS A m.length cc) m, Cel b5 #[vI .u64 (((en))), vS AoL130 g129.length coL131, vS AoQ132 g118.length coQ133] 61, Cel b3 #[vI .i64 x.g, vI .i64 x.kind, vI .i64 x.site.f, vI .i64 x.site.pc, vI .u32 x.addr, vI .i64 x.child, vI .i64 x.obj, vI .i64 x.n, vI .i64 x.trap] 42, Cel b1 #[vI .u64 ((en)), vS AoL119 g84.length coL120, vS AoQ121 g118.length coQ122] 61]) (by kernel_rfl) (by kernel_rfl) (by kernel_rfl) (by kernel_rfl) (by kernel_rfl) hW 1 (by rfl) (Nat.le_of_ble_eq_true (by kernel_rfl)) (by kernel_rfl) (by rfl) ?_); clear hA ac hW; intro w134 hW ac hA
     refine st_p (vI .u64 (packV (x.g) (getC (kacc ks x) (x.g)))) hA fun ac hA => st_p (vI .i64 0) hA fun ac hA => wn <| wp_ret <| ret3 (v1 := vA #[vI .u64 (((en))), vS AoL130 g129.length coL131, vS AoQ132 g118.length coQ133]) (v2 := vI .u64 (packV (x.g) (getC (kacc ks x) (x.g)))) (v3 := vI .i64 0) (by rfl) hA (Got.cell (b := b5) (i := 0) hA (by kernel_rfl) (by kernel_rfl) (hW.cel 1 rfl) (by kernel_rfl)) (Got.tmp hA (by kernel_rfl) (by kernel_rfl)) (Got.tmp hA (by kernel_rfl) (by kernel_rfl)) ?_
     clear hA
     obtain ⟨u3, huw3, huc3, huL3⟩ := hw128_hL
     have hnl3 : g129.length ≤ g84.length + 1 := by rw [huL3]; exact with_len _ _ _
     have hsr3 : g129.Pairwise (fun a b => a.w < b.w) := by rw [huL3]; exact with_srt huw3 hsr1
     have hcl3 : ∀ y ∈ g129, y.cl.length ≤ 65536 := by rw [huL3]; exact with_cl hcl1 (by rw [huc3]; exact htl2_)
     exact ⟨comeS ks x, packV (x.g) (getC (kacc ks x) (x.g)), 0, g129, g118, AoL130, coL131, AoQ132, coQ133, by first | rfl | (simp; done), by exact come_ok hce_ rfl (show packV x.g (getC (kacc ks x) x.g) = comeAt ks x from by unfold packV; rw [hpk_]; rfl), by rw [huL3, huL1, hvQ_]; exact hok.come2 hxo_ (of_decide_eq_true (show evRel x = true from by first | exact h92 | simpa using h92)) (by omega) huw1 huc1 hvk_ hvo_ hvc_ huw3 (huc3.trans hw124_hO), (by first | assumption | omega | (simp; omega) | simp), (by first | assumption | omega | (simp; omega) | simp), hkcoL131, hkcoQ133, (hW.outSrc 3 rfl hscoL131), (hW.outSrc 2 rfl hscoQ133), (hW.outSrc 1 rfl hsncoL131), (hW.outSrc 0 rfl hsncoQ133), hW.fr⟩))))

end Go.Proofs.YtjegpelofdopmaaGreatDoor.L
