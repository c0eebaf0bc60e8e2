/- Contracts, walked by program over the engine's laws. -/
import Derived.Test.YtjegpelofdopmaaGreatDoorProg
import Derived.Test.YtjegpelofdopmaaGreatDoorT25
namespace Go.Proofs.YtjegpelofdopmaaGreatDoor.L
open Go.RowKit
open Go.Value renaming int → vI, slice → vS, bool → vB, pointer → vP, func → vF, agg → vA, map → vM, tuple → vT

def deEvent : List Value → Event
  | [.int _ a0, .int _ a1, .int _ a2, .int _ a3, .int _ a4, .int _ a5, .int _ a6, .int _ a7, .int _ a8] => ⟨a0, a1, ⟨a2, a3⟩, a4, a5, a6, a7, a8⟩
  | _ => ⟨0, 0, ⟨0, 0⟩, 0, 0, 0, 0, 0⟩
def wfEvent (x : Event) : Prop := (Lit.int .i64 x.g).wf = true ∧ (Lit.int .i64 x.kind).wf = true ∧ (Lit.int .i64 x.site.f).wf = true ∧ (Lit.int .i64 x.site.pc).wf = true ∧ (Lit.int .u32 x.addr).wf = true ∧ (Lit.int .i64 x.child).wf = true ∧ (Lit.int .i64 x.obj).wf = true ∧ (Lit.int .i64 x.n).wf = true ∧ (Lit.int .i64 x.trap).wf = true ∧ True
theorem deEvent_ok (cs : List Value) (h : cksOk [.int .i64, .int .i64, .int .i64, .int .i64, .int .u32, .int .i64, .int .i64, .int .i64, .int .i64] cs) : enEvent (deEvent cs) = cs ∧ wfEvent (deEvent cs) := by
  have hl := cksOk_length h
  match cs, hl, h with
  | [c0, c1, c2, c3, c4, c5, c6, c7, c8], _, ⟨⟨_, h0, w0⟩, ⟨_, h1, w1⟩, ⟨_, h2, w2⟩, ⟨_, h3, w3⟩, ⟨_, h4, w4⟩, ⟨_, h5, w5⟩, ⟨_, h6, w6⟩, ⟨_, h7, w7⟩, ⟨_, h8, w8⟩, _⟩ =>
    subst h0 h1 h2 h3 h4 h5 h6 h7 h8
    exact ⟨rfl, w0, w1, w2, w3, w4, w5, w6, w7, w8, trivial⟩
theorem flatEvent {v : Value} (h : cksOk [.int .i64, .int .i64, .int .i64, .int .i64, .int .u32, .int .i64, .int .i64, .int .i64, .int .i64] v.cells.toList) : ∃ x : Event, v = x.v ∧ wfEvent x := by
  have hl := cksOk_length h
  cases v with
  | agg a => exact ⟨deEvent a.toList, by have := (deEvent_ok _ h).1; have h2 := congrArg List.toArray this; exact congrArg vA (h2.symm), (deEvent_ok _ h).2⟩
  | _ => simp [Value.cells] at hl
theorem few_len {l : List Event} {m : Int} (h : fewOk l m = true) : (l.length : Int) ≤ m := by unfold fewOk at h; rw [Bool.and_eq_true] at h; exact of_decide_eq_true h.2
theorem wf_event {x : Event} (h : wfEvent x) : ((-9223372036854775808 ≤ x.kind ∧ x.kind ≤ 9223372036854775807) ∧ 0 ≤ x.addr ∧ x.addr ≤ 4294967295) ∧ (-9223372036854775808 ≤ x.g ∧ x.g ≤ 9223372036854775807 ∧ -9223372036854775808 ≤ x.child ∧ x.child ≤ 9223372036854775807) ∧ -9223372036854775808 ≤ x.obj ∧ x.obj ≤ 9223372036854775807 := by
  obtain ⟨h0, h1, -, -, h2, h3, h4, -⟩ := h
  simp [Lit.wf, IntKind.min, IntKind.max] at h0 h1 h2 h3 h4
  simp only [IntKind.bits, IntKind.signed] at h0 h1 h2 h3 h4
  simp at h0 h1 h2 h3 h4
  omega
set_option maxHeartbeats 4000000 in
set_option maxRecDepth 100000 in
theorem e_clocksCome (en : Int) (A_l : Option Addr) (c_l : Nat) (l : List Event) (w : World) (hr_l : RowAt w A_l 9 enEvent l) (hc_l : l.length ≤ c_l) (he : 0 ≤ en ∧ en ≤ 18446744073709551615) (hl : l.length ≤ 9223372036854775807) (hel : ∀ x ∈ l, ((-9223372036854775808 ≤ x.kind ∧ x.kind ≤ 9223372036854775807) ∧ 0 ≤ x.addr ∧ x.addr ≤ 4294967295) ∧ (-9223372036854775808 ≤ x.g ∧ x.g ≤ 9223372036854775807 ∧ -9223372036854775808 ≤ x.child ∧ x.child ≤ 9223372036854775807) ∧ -9223372036854775808 ≤ x.obj ∧ x.obj ≤ 9223372036854775807) : Calls Tryz.prog 4 #[vI .u64 en, vS A_l l.length c_l] w (fun e w' => e = .returned (vB true) ∧ Fr No w w') := by
 have _hu := hc_l; have _hv := hr_l; clear _hu _hv
 have _hu := he; clear _hu
 have _hu := hl; clear _hu
 have _hu := hel; clear _hu
 refine enter_E 87 Tryz.func4 rfl rfl (by kernel_rfl) (L := [(0, vI .u64 en), (1, vS A_l l.length c_l)]) (by kernel_rfl) ?_
 intro ac hA
 have hW := Ws.start w No
 have hW := hW.arg hr_l
 refine wr <| st_p (vB false) hA ?_; clear hA ac; intro ac hA
 refine wn <| wp_seq <| wr <| st_p (vS A_l l.length c_l) hA ?_; clear hA ac; intro ac hA
 refine st_s hA (Runs.callN (v := vB (fewOk l (50))) (fun _ => by kernel_rfl) hW (e_lfew A_l c_l l (50) w ((hW).getG 0 rfl) (by first | assumption | omega | (simp; omega) | simp) hl (fun x hx => (hel x hx).1) (by decide) (by decide)) ?_); clear hA ac hW; intro w1 hW hfw1 ac hA
 refine st_p (vB (!(fewOk l (50)))) hA ?_; clear hA ac; intro ac hA
 refine wn <| wp_cond_split (t := !(fewOk l (50))) (hA.eval (by kernel_rfl)) (fun h2 => ?_) (fun h2 => ?_)
 ·
  have h2 := not_t h2
  first
  | (exfalso; clear hA hW; omega)
  | (
   refine wr <| st_s hA (Runs.callN (v := vB true) (fun _ => by kernel_rfl) hW (e_works w1) ?_); clear hA ac hW; intro w3 hW hfw3 ac hA
   refine st_p (vB true) hA ?_; clear hA ac; intro ac hA
   refine wn <| wp_ret <| thenR <| r1 (vB true) hA ?_
   clear hA
   exact ⟨retv (by rfl), hW.fr⟩)
 have h2 := not_f h2
 first
 | (exfalso; clear hA hW; omega)
 | (
  refine wp_skip <| thenN <| wp_seq ?_
  have hfl_ := few_len (show fewOk l 50 = true from h2)
  rcases Bool.eq_false_or_eq_true (decide (1 ≤ en ∧ en ≤ 281474976710655)) with h4 | h4
  ·
   have h4 := of_decide_eq_true h4
   first
   | (exfalso; clear hA hW; omega)
   | (
    have hfl_ := few_len (show fewOk l 50 = true from h2)
    refine wp_region_lit <| st_p (vI .u64 en) hA ?_; clear hA ac; intro ac hA
    refine st_s hA (Runs.call (fun _ => by kernel_rfl) (e_knew (en) w1 (by first | omega | decide | assumption | exact ⟨by omega, by omega⟩)) ?_)
    rintro _ w5 ⟨n6, n7, n8, n9, n10, rfl, hw5_hK, hu_⟩; refine ⟨_, rfl, ?_⟩; replace hW := hW.made hu_; clear hA ac; intro ac hA
    refine st_p (vT #[pA n6 0, vI .i64 0]) hA fun ac hA => st_p (pA n6 0) hA fun ac hA => st_p (vI .i64 0) hA fun ac hA => st_p (pA n6 0) hA fun ac hA => st_p (vI .i64 0) hA fun ac hA => wn <| wp_seq ?_
    have hW : Ws w No [Cel n6 #[vM (some n7), vM (some n9), vI .u64 (en)] 77, mapR n7 (fun a : Int => vI .i64 a) SV.v n8, mapR n9 Thing.v SV.v n10, nestR innerSV (NV [] n8 n10)] [roR A_l 9 enEvent l] w5 := Ws.unpack (hW.pick [0] (by decide) rfl)
    have hW := hW.share 3 rfl (H' := [Cel n6 #[vM (some n7), vM (some n9), vI .u64 (en)] 77, mapR n7 (fun a : Int => vI .i64 a) SV.v n8, mapR n9 Thing.v SV.v n10]) rfl
    have hW : Ws w No [ClkS n6 n7 n8 n9 n10 (en) kst0 0] [nestR innerSV (NV [] n8 n10), roR A_l 9 enEvent l] w5 := Ws.pack (hW.pick [0, 1, 2] (by decide) rfl)
    refine wp_region_lit <| st_p (vI .u64 en) hA ?_; clear hA ac; intro ac hA
    refine st_s hA (Runs.call (fun _ => by kernel_rfl) (e_dnew (en) w5 (by first | omega | decide | assumption | exact ⟨by omega, by omega⟩)) ?_)
    rintro _ w11 ⟨g12, AoL13, coL14, AoQ15, coQ16, rfl, hw11_hD, hccoL14, hccoQ16, hkcoL14, hkcoQ16, hfcoL14, hfcoQ16, hnfcoL14, hnfcoQ16, hfw11⟩; refine ⟨_, rfl, ?_⟩; have hW0 := hW; have hW := hW0.call hfw11
    have hW := hW0.addFromAt hW hfcoL14 in_nil
    have hW := hW0.addFromAt hW hfcoQ16 in_nil
    have hW := hW0.addFromAt hW hnfcoL14 in_nil
    have hW := hW0.addFromAt hW hnfcoQ16 in_nil
    clear hW0 hA ac; intro ac hA
    refine st_p (vT #[vA #[vI .u64 (en), vS AoL13 g12.length coL14, vS AoQ15 (([] : List Thg4)).length coQ16], vI .i64 0]) hA fun ac hA => st_p (vA #[vI .u64 (en), vS AoL13 g12.length coL14, vS AoQ15 (([] : List Thg4)).length coQ16]) hA fun ac hA => st_p (vI .i64 0) hA fun ac hA => st_s hA (Runs.cells (fun b => pA b 0) #[vI .u64 0, vS none 0 0, vS none 0 0] 61 (fun _ => by kernel_rfl) hW ?_); clear hA ac hW; intro b17 w18 hW hb17 hfw18 ac hA
    refine st_s hA (Runs.store (v := vA #[vI .u64 (en), vS AoL13 g12.length coL14, vS AoQ15 (([] : List Thg4)).length coQ16]) (b := b17) (j := 0) (n := 3) (cs' := #[vI .u64 (en), vS AoL13 g12.length coL14, vS AoQ15 (([] : List Thg4)).length coQ16]) (H' := [Cel b17 #[vI .u64 (en), vS AoL13 g12.length coL14, vS AoQ15 (([] : List Thg4)).length coQ16] 61, ClkS n6 n7 n8 n9 n10 (en) kst0 0]) (by kernel_rfl) (by kernel_rfl) (by kernel_rfl) (by kernel_rfl) (by kernel_rfl) hW 0 (by rfl) (Nat.le_of_ble_eq_true (by kernel_rfl)) (by kernel_rfl) (by rfl) ?_); clear hA ac hW; intro w19 hW ac hA
    refine st_p (vI .i64 0) hA ?_; clear hA ac; intro ac hA
    refine wn <| wp_seq <| wr <| st_p (vI .i64 0) hA ?_; clear hA ac; intro ac hA
    refine st_s hA (Runs.callN (v := vI .i64 (0)) (fun _ => by kernel_rfl) hW (e_num (0) w19) ?_); clear hA ac hW; intro w20 hW hfw20 ac hA
    refine st_p (vI .i64 0) hA fun ac hA => st_p (vB (((0) : Int) != (0 : Int))) hA fun ac hA => st_p (vB (((0) : Int) != (0 : Int))) hA fun ac hA => ?_
    rcases Bool.eq_false_or_eq_true (((0) : Int) != (0 : Int)) with h21 | h21
    ·
     rw [h21] at hA
     have h21 := bne_iff_ne.1 h21
     first
     | (exfalso; clear hA hW; omega)
     | (
      refine st_k hA fun ac hA => st_k hA fun ac hA => st_k hA fun ac hA => st_k hA fun ac hA => st_k hA fun ac hA => st_p (vB true) hA fun ac hA => wn <| wp_cond_true (hA.eval (by kernel_rfl)) <| wr <| st_p (vB false) hA ?_; clear hA ac; intro ac hA
      refine wn <| wp_ret <| thenR <| r1 (vB false) hA ?_
      clear hA
      exact ⟨retv (by rfl), hW.fr⟩)
    rw [h21] at hA
    have h21 := of_bne_f h21
    first
    | (exfalso; clear hA hW; omega)
    | (
     refine st_p (pA n6 0) hA fun ac hA => st_p (vB true) hA fun ac hA => st_p (vI .i64 0) hA fun ac hA => st_p (vB true) hA fun ac hA => st_p (vB false) hA fun ac hA => st_p (vB false) hA fun ac hA => wn <| wp_cond_false (hA.eval (by kernel_rfl)) <| wp_skip <| thenN <| wp_seq <| wr <| st_p (vI .i64 0) hA fun ac hA => st_p (vB false) hA fun ac hA => wn <| wp_cond_false (hA.eval (by kernel_rfl)) <| wp_skip <| thenN <| wp_seq <| wr <| st_p (vI .i64 0) hA ?_; clear hA ac; intro ac hA
     refine wn <| wp_block <| wp_loop_m (fun m_ ac_ wl_ => ∃ k : Nat, ∃ G : List (Int × SV), ∃ T : List (Thing × SV), ∃ s : KSt, ∃ L : List One4, ∃ AL : Option Addr, ∃ cL : Nat, ∃ Q : List Thg4, ∃ AQ : Option Addr, ∃ cQ : Nat, m_ = l.length - k ∧ (k ≤ l.length) ∧ (ClkOk (en) k s G T) ∧ (DOk (en) k s L Q) ∧ (Reach (en) s) ∧ (L.length ≤ cL) ∧ (Q.length ≤ cQ) ∧ (∀ x_ ∈ L, capOne4 x_) ∧ (∀ x_ ∈ Q, capThg4 x_) ∧ Fm 87 [] [(0, vI .u64 en), (1, vS A_l l.length c_l), (5, pA n6 0), (7, pA b17 0), (9, vI .i64 (k : Int))] ac_ ∧ Ws w No [Cel b17 #[vI .u64 (en), vS AL L.length cL, vS AQ Q.length cQ] 61, ClkS n6 n7 G n9 T (en) s k] [roR AL 2 enOne4 L, roR AQ 3 enThg4 Q, nestR innerOne4 L, nestR innerThg4 Q, nestR innerSV (NV [] G T), roR A_l 9 enEvent l] wl_) _ ⟨0, n8, n10, kst0, g12, AoL13, coL14, ([] : List Thg4), AoQ15, coQ16, rfl, by omega, by exact hw5_hK, by exact hw11_hD, by exact .start, by exact (by first | assumption | omega | (simp; omega) | simp), by exact (by first | assumption | omega | (simp; omega) | simp), by exact hkcoL14, by exact hkcoQ16, hA.sub (by and_intros <;> first | kernel_rfl | trivial), (hW.pick [0, 1] (by decide) rfl).pickG [3, 2, 1, 0, 4, 5] rfl⟩ ?_
     clear hA ac hW; rintro m_ ac w22 ⟨k, G, T, s, L, AL, cL, Q, AQ, cQ, rfl, hk, hK, hD, hRe, hcL, hcQ, hkL, hkQ, hA, hW⟩
     refine wp_seq <| wr <| st_p (vI .i64 (k : Int)) hA fun ac hA => st_p (vS A_l l.length c_l) hA fun ac hA => st_p (vI .i64 (l.length : Int)) hA fun ac hA => st_p (vB (decide ((k : Int) < (l.length : Int)))) hA fun ac hA => wn <| wp_cond_split (t := decide ((k : Int) < (l.length : Int))) (hA.eval (by kernel_rfl)) (fun h23 => ?_) (fun h23 => ?_)
     ·
      have h23 := of_decide_eq_true h23
      first
      | (exfalso; clear hA hW; omega)
      | (
       refine wp_skip <| thenN <| wp_seq <| wp_block <| wp_seq ?_
       obtain ⟨y24, hy24⟩ : ∃ y, l[k]? = some y := ⟨_, List.getElem?_eq_getElem (by omega)⟩
       obtain ⟨b25, o26, rfl, hbb25⟩ := row_some ((hW).getG 5 rfl) hy24
       have hyr_ := hel _ (List.mem_of_getElem? hy24); have hyk_ := hyr_.1.1; have hyo_ := hyr_.2.2; have hyg_ := hyr_.2.1; have hya_ := hyr_.1.2
       refine wp_cut (fun ac_ wl_ => ∃ AoLr12_5 : Option Addr, ∃ AoQr12_5 : Option Addr, ∃ br12_10 : Nat, ∃ coLr12_5 : Nat, ∃ coQr12_5 : Nat, ∃ g0r12_5 : KSt, ∃ g1r12_5 : Int, ∃ g2r12_5 : Int, ∃ g3r12_5 : List One4, ∃ g4r12_5 : List Thg4, (g3r12_5.length ≤ coLr12_5) ∧ (g4r12_5.length ≤ coQr12_5) ∧ (∀ x_ ∈ g3r12_5, capOne4 x_) ∧ (∀ x_ ∈ g4r12_5, capThg4 x_) ∧ (DOk ((en)) (k + 1) g0r12_5 g3r12_5 g4r12_5) ∧ ((g0r12_5, g1r12_5, g2r12_5) = comeK ((en)) s y24) ∧ Fm 87 [] [(0, vI .u64 en), (1, vS (some ⟨b25, o26, none⟩) l.length c_l), (5, pA n6 0), (7, pA b17 0), (9, vI .i64 (k : Int)), (10, pA br12_10 0), (11, vI .u64 g1r12_5), (12, vI .i64 g2r12_5), (43, vI .i64 (k : Int)), (44, vS (some ⟨b25, o26, none⟩) l.length c_l), (45, vI .i64 (l.length : Int)), (46, vB (decide ((k : Int) < (l.length : Int))))] ac_ ∧ Ws w No [Cel br12_10 #[vI .u64 ((en)), vS AoLr12_5 g3r12_5.length coLr12_5, vS AoQr12_5 g4r12_5.length coQr12_5] 61, Cel b17 #[vI .u64 (en), vS AL L.length cL, vS AQ Q.length cQ] 61, ClkS n6 n7 G n9 T (en) s k] [nestR innerThg4 g4r12_5, nestR innerOne4 g3r12_5, roR AoQr12_5 3 enThg4 g4r12_5, roR AoLr12_5 2 enOne4 g3r12_5, roR AL 2 enOne4 L, roR AQ 3 enThg4 Q, nestR innerOne4 L, nestR innerThg4 Q, nestR innerSV (NV [] G T), roR (some ⟨b25, o26, none⟩) 9 enEvent l] wl_) ?_ ?_
       · refine sr_region (m := 14) (C := Ws w No [Cel b17 #[vI .u64 (en), vS AL L.length cL, vS AQ Q.length cQ] 61, ClkS n6 n7 G n9 T (en) s k] [roR AL 2 enOne4 L, roR AQ 3 enThg4 Q, nestR innerOne4 L, nestR innerThg4 Q, nestR innerSV (NV [] G T), roR (some ⟨b25, o26, none⟩) 9 enEvent l]) (fun i => [0, 4].contains i) (fun i => [0, 4, 10].contains i) (fun i => [1, 2, 3, 6, 7, 8, 9, 12, 13].contains i) (by kernel_rfl) (by kernel_rfl) (by kernel_rfl) (by kernel_rfl) hW ?_; clear hW; intro w27 hW hfw27 hR; have hC : Ws w No [Cel b17 #[vI .u64 (en), vS AL L.length cL, vS AQ Q.length cQ] 61, ClkS n6 n7 G n9 T (en) s k] [roR AL 2 enOne4 L, roR AQ 3 enThg4 Q, nestR innerOne4 L, nestR innerThg4 Q, nestR innerSV (NV [] G T), roR (some ⟨b25, o26, none⟩) 9 enEvent l] w27 := hW.pick [0, 1] (by decide) rfl
         refine sr_t 0 (vA #[vI .u64 (en), vS AL L.length cL, vS AQ Q.length cQ]) hR rfl hA hC (Rd.load (b := b17) (i := 0) (by kernel_rfl) (fun _ hw => (hw).cel 0 rfl) (by kernel_rfl)) fun ac hA => sr_p 1 (vS (some ⟨b25, o26, none⟩) l.length c_l) hR rfl hA fun ac hA => sr_p 2 (vI .i64 (k : Int)) hR rfl hA fun ac hA => sr_q 3 (vP (some ⟨b25, o26 + k * 9, none⟩)) hR rfl hA (Rd.indexAddr (e := 42) (sz := 9) (b := b25) (off := o26) (n := l.length) (c := c_l) (k := k) (by kernel_rfl) (by kernel_rfl) (by first | omega | (simp; done) | (simp; omega)) (fun _ => by kernel_rfl) (fun _ => by kernel_rfl)) fun ac hA => sr_t 4 (vA #[vI .i64 y24.g, vI .i64 y24.kind, vI .i64 y24.site.f, vI .i64 y24.site.pc, vI .u32 y24.addr, vI .i64 y24.child, vI .i64 y24.obj, vI .i64 y24.n, vI .i64 y24.trap]) hR rfl hA hC (Rd.loadRow (b := b25) (i := o26 + k * 9) (xs := [vI .i64 y24.g, vI .i64 y24.kind, vI .i64 y24.site.f, vI .i64 y24.site.pc, vI .u32 y24.addr, vI .i64 y24.child, vI .i64 y24.obj, vI .i64 y24.n, vI .i64 y24.trap]) (by kernel_rfl) (fun _ hw => row_ld ((hw).getG 5 rfl) hy24 (Fr.refl No _) (fun h => h) 0 9 (by kernel_rfl)) (by kernel_rfl)) fun ac hA => sr_two (i := 5) (j := 10) (by kernel_rfl) ?_ ?_
         ·
          refine (sr_d rfl hA (Runs.call (fun _ => by kernel_rfl) (e_dcome ((en)) AL cL L AQ cQ Q s k y24 w27 ((hW).getG 0 rfl) (by first | assumption | omega | (simp; omega) | simp) ((hW).getG 2 rfl) hkL ((hW).getG 1 rfl) (by first | assumption | omega | (simp; omega) | simp) ((hW).getG 3 rfl) hkQ (by first | omega | decide | assumption | exact ⟨by omega, by omega⟩) (by first | omega | decide | assumption | exact ⟨by omega, by omega⟩) (by first | omega | decide | assumption | exact ⟨by omega, by omega⟩) (by first | omega | decide | assumption | exact ⟨by omega, by omega⟩) (by first | omega | decide | assumption | exact ⟨by omega, by omega⟩) hRe.own) ?_))
          rintro _ w28 ⟨g0r12_5, g1r12_5, g2r12_5, g3r12_5, g4r12_5, AoLr12_5, coLr12_5, AoQr12_5, coQr12_5, rfl, hr12_5_hE, hr12_5_hD, hccoLr12_5, hccoQr12_5, hkcoLr12_5, hkcoQr12_5, hfcoLr12_5, hfcoQr12_5, hnfcoLr12_5, hnfcoQr12_5, hfw28⟩; refine ⟨_, rfl, ?_⟩; have hW0 := hW; have hW := hW0.call hfw28
          have hW := hW0.addFromAt hW hfcoLr12_5 (in_cons (in_at 0 rfl) (in_cons (in_at 2 rfl) (in_cons (in_at 1 rfl) (in_cons (in_at 3 rfl) in_nil))))
          have hW := hW0.addFromAt hW hfcoQr12_5 (in_cons (in_at 0 rfl) (in_cons (in_at 2 rfl) (in_cons (in_at 1 rfl) (in_cons (in_at 3 rfl) in_nil))))
          have hW := hW0.addFromAt hW hnfcoLr12_5 (in_cons (in_at 0 rfl) (in_cons (in_at 2 rfl) (in_cons (in_at 1 rfl) (in_cons (in_at 3 rfl) in_nil))))
          have hW := hW0.addFromAt hW hnfcoQr12_5 (in_cons (in_at 0 rfl) (in_cons (in_at 2 rfl) (in_cons (in_at 1 rfl) (in_cons (in_at 3 rfl) in_nil))))
          clear hW0 hA ac; intro ac hA
          refine qn <| sr_p 6 (vT #[vA #[vI .u64 ((en)), vS AoLr12_5 g3r12_5.length coLr12_5, vS AoQr12_5 g4r12_5.length coQr12_5], vI .u64 g1r12_5, vI .i64 g2r12_5]) hR rfl hA fun ac hA => sr_p 7 (vA #[vI .u64 ((en)), vS AoLr12_5 g3r12_5.length coLr12_5, vS AoQr12_5 g4r12_5.length coQr12_5]) hR rfl hA fun ac hA => sr_p 8 (vI .u64 g1r12_5) hR rfl hA fun ac hA => sr_p 9 (vI .i64 g2r12_5) hR rfl hA fun ac hA => sr_one (i := 10) (by kernel_rfl) (sr_d rfl hA (Runs.cells (fun b => pA b 0) #[vI .u64 0, vS none 0 0, vS none 0 0] 61 (fun _ => by kernel_rfl) hW ?_)); clear hA ac hW; intro br12_10 w29 hW hbr12_10 hfw29 ac hA
          refine ⟨⟨fun _ => (hW.pick [1, 2] (by decide) rfl).pickG [4, 5, 6, 7, 8, 9] rfl, fun h => absurd h (by decide)⟩, ?_⟩; have hC : Ws w No [Cel b17 #[vI .u64 (en), vS AL L.length cL, vS AQ Q.length cQ] 61, ClkS n6 n7 G n9 T (en) s k] [roR AL 2 enOne4 L, roR AQ 3 enThg4 Q, nestR innerOne4 L, nestR innerThg4 Q, nestR innerSV (NV [] G T), roR (some ⟨b25, o26, none⟩) 9 enEvent l] w29 := (hW.pick [1, 2] (by decide) rfl).pickG [4, 5, 6, 7, 8, 9] rfl
          refine sr_one (i := 11) (by kernel_rfl) (sr_d rfl hA (Runs.store (v := vA #[vI .u64 ((en)), vS AoLr12_5 g3r12_5.length coLr12_5, vS AoQr12_5 g4r12_5.length coQr12_5]) (b := br12_10) (j := 0) (n := 3) (cs' := #[vI .u64 ((en)), vS AoLr12_5 g3r12_5.length coLr12_5, vS AoQr12_5 g4r12_5.length coQr12_5]) (H' := [Cel br12_10 #[vI .u64 ((en)), vS AoLr12_5 g3r12_5.length coLr12_5, vS AoQr12_5 g4r12_5.length coQr12_5] 61, Cel b17 #[vI .u64 (en), vS AL L.length cL, vS AQ Q.length cQ] 61, ClkS n6 n7 G n9 T (en) s k]) (by kernel_rfl) (by kernel_rfl) (by kernel_rfl) (by kernel_rfl) (by kernel_rfl) hW 0 (by rfl) (Nat.le_of_ble_eq_true (by kernel_rfl)) (by kernel_rfl) (by rfl) ?_)); clear hA ac hW; intro w30 hW ac hA
          refine qn <| sr_p 12 (vI .u64 g1r12_5) hR rfl hA fun ac hA => sr_p 13 (vI .i64 g2r12_5) hR rfl hA fun ac hA => sr_done (by kernel_rfl) ?_ _
          exact ⟨AoLr12_5, AoQr12_5, br12_10, coLr12_5, coQr12_5, g0r12_5, g1r12_5, g2r12_5, g3r12_5, g4r12_5, hccoLr12_5, hccoQr12_5, hkcoLr12_5, hkcoQr12_5, hr12_5_hD, hr12_5_hE, hA.sub (by and_intros <;> first | kernel_rfl | trivial), (hW.pick [0, 1, 2] (by decide) rfl).pickG [0, 1, 2, 3, 4, 5, 6, 7, 8, 9] rfl⟩
         ·
          refine (sr_d rfl hA (Runs.cells (fun b => pA b 0) #[vI .u64 0, vS none 0 0, vS none 0 0] 61 (fun _ => by kernel_rfl) hW ?_)); clear hA ac hW; intro br12_10 w31 hW hbr12_10 hfw31 ac hA
          refine ⟨⟨fun _ => (hW.pick [1, 2] (by decide) rfl).pickG [0, 1, 2, 3, 4, 5] rfl, fun h => absurd h (by decide)⟩, ?_⟩; have hC : Ws w No [Cel b17 #[vI .u64 (en), vS AL L.length cL, vS AQ Q.length cQ] 61, ClkS n6 n7 G n9 T (en) s k] [roR AL 2 enOne4 L, roR AQ 3 enThg4 Q, nestR innerOne4 L, nestR innerThg4 Q, nestR innerSV (NV [] G T), roR (some ⟨b25, o26, none⟩) 9 enEvent l] w31 := (hW.pick [1, 2] (by decide) rfl).pickG [0, 1, 2, 3, 4, 5] rfl
          refine sr_one (i := 5) (by kernel_rfl) (sr_d rfl hA (Runs.call (fun _ => by kernel_rfl) (e_dcome ((en)) AL cL L AQ cQ Q s k y24 w31 ((hW).getG 0 rfl) (by first | assumption | omega | (simp; omega) | simp) ((hW).getG 2 rfl) hkL ((hW).getG 1 rfl) (by first | assumption | omega | (simp; omega) | simp) ((hW).getG 3 rfl) hkQ (by first | omega | decide | assumption | exact ⟨by omega, by omega⟩) (by first | omega | decide | assumption | exact ⟨by omega, by omega⟩) (by first | omega | decide | assumption | exact ⟨by omega, by omega⟩) (by first | omega | decide | assumption | exact ⟨by omega, by omega⟩) (by first | omega | decide | assumption | exact ⟨by omega, by omega⟩) hRe.own) ?_))
          rintro _ w32 ⟨g0r12_5, g1r12_5, g2r12_5, g3r12_5, g4r12_5, AoLr12_5, coLr12_5, AoQr12_5, coQr12_5, rfl, hr12_5_hE, hr12_5_hD, hccoLr12_5, hccoQr12_5, hkcoLr12_5, hkcoQr12_5, hfcoLr12_5, hfcoQr12_5, hnfcoLr12_5, hnfcoQr12_5, hfw32⟩; refine ⟨_, rfl, ?_⟩; have hW0 := hW; have hW := hW0.call hfw32
          have hW := hW0.addFromAt hW hfcoLr12_5 (in_cons (in_at 0 rfl) (in_cons (in_at 2 rfl) (in_cons (in_at 1 rfl) (in_cons (in_at 3 rfl) in_nil))))
          have hW := hW0.addFromAt hW hfcoQr12_5 (in_cons (in_at 0 rfl) (in_cons (in_at 2 rfl) (in_cons (in_at 1 rfl) (in_cons (in_at 3 rfl) in_nil))))
          have hW := hW0.addFromAt hW hnfcoLr12_5 (in_cons (in_at 0 rfl) (in_cons (in_at 2 rfl) (in_cons (in_at 1 rfl) (in_cons (in_at 3 rfl) in_nil))))
          have hW := hW0.addFromAt hW hnfcoQr12_5 (in_cons (in_at 0 rfl) (in_cons (in_at 2 rfl) (in_cons (in_at 1 rfl) (in_cons (in_at 3 rfl) in_nil))))
          clear hW0 hA ac; intro ac hA
          refine qn <| sr_p 6 (vT #[vA #[vI .u64 ((en)), vS AoLr12_5 g3r12_5.length coLr12_5, vS AoQr12_5 g4r12_5.length coQr12_5], vI .u64 g1r12_5, vI .i64 g2r12_5]) hR rfl hA fun ac hA => sr_p 7 (vA #[vI .u64 ((en)), vS AoLr12_5 g3r12_5.length coLr12_5, vS AoQr12_5 g4r12_5.length coQr12_5]) hR rfl hA fun ac hA => sr_p 8 (vI .u64 g1r12_5) hR rfl hA fun ac hA => sr_p 9 (vI .i64 g2r12_5) hR rfl hA fun ac hA => sr_one (i := 11) (by kernel_rfl) (sr_d rfl hA (Runs.store (v := vA #[vI .u64 ((en)), vS AoLr12_5 g3r12_5.length coLr12_5, vS AoQr12_5 g4r12_5.length coQr12_5]) (b := br12_10) (j := 0) (n := 3) (cs' := #[vI .u64 ((en)), vS AoLr12_5 g3r12_5.length coLr12_5, vS AoQr12_5 g4r12_5.length coQr12_5]) (H' := [Cel br12_10 #[vI .u64 ((en)), vS AoLr12_5 g3r12_5.length coLr12_5, vS AoQr12_5 g4r12_5.length coQr12_5] 61, Cel b17 #[vI .u64 (en), vS AL L.length cL, vS AQ Q.length cQ] 61, ClkS n6 n7 G n9 T (en) s k]) (by kernel_rfl) (by kernel_rfl) (by kernel_rfl) (by kernel_rfl) (by kernel_rfl) hW 0 (by rfl) (Nat.le_of_ble_eq_true (by kernel_rfl)) (by kernel_rfl) (by rfl) ?_)); clear hA ac hW; intro w33 hW ac hA
          refine qn <| sr_p 12 (vI .u64 g1r12_5) hR rfl hA fun ac hA => sr_p 13 (vI .i64 g2r12_5) hR rfl hA fun ac hA => sr_done (by kernel_rfl) ?_ _
          exact ⟨AoLr12_5, AoQr12_5, br12_10, coLr12_5, coQr12_5, g0r12_5, g1r12_5, g2r12_5, g3r12_5, g4r12_5, hccoLr12_5, hccoQr12_5, hkcoLr12_5, hkcoQr12_5, hr12_5_hD, hr12_5_hE, hA.sub (by and_intros <;> first | kernel_rfl | trivial), (hW.pick [0, 1, 2] (by decide) rfl).pickG [0, 1, 2, 3, 4, 5, 6, 7, 8, 9] rfl⟩
       clear hA ac hW; rintro ac w34 ⟨AoLr12_5, AoQr12_5, br12_10, coLr12_5, coQr12_5, g0r12_5, g1r12_5, g2r12_5, g3r12_5, g4r12_5, hccoLr12_5, hccoQr12_5, hkcoLr12_5, hkcoQr12_5, hr12_5_hD, hr12_5_hE, hA, hW⟩
       refine thenN <| wr <| st_p (pA n6 0) hA fun ac hA => st_p (vS (some ⟨b25, o26, none⟩) l.length c_l) hA fun ac hA => st_p (vI .i64 (k : Int)) hA fun ac hA => st_q (vP (some ⟨b25, o26 + k * 9, none⟩)) hA hW.cls (Rd.indexAddr (e := 42) (sz := 9) (b := b25) (off := o26) (n := l.length) (c := c_l) (k := k) (by kernel_rfl) (by kernel_rfl) (by first | omega | (simp; done) | (simp; omega)) (fun _ => by kernel_rfl) (fun _ => by kernel_rfl)) fun ac hA => st_q (vA #[vI .i64 y24.g, vI .i64 y24.kind, vI .i64 y24.site.f, vI .i64 y24.site.pc, vI .u32 y24.addr, vI .i64 y24.child, vI .i64 y24.obj, vI .i64 y24.n, vI .i64 y24.trap]) hA hW.cls (Rd.loadRow (b := b25) (i := o26 + k * 9) (xs := [vI .i64 y24.g, vI .i64 y24.kind, vI .i64 y24.site.f, vI .i64 y24.site.pc, vI .u32 y24.addr, vI .i64 y24.child, vI .i64 y24.obj, vI .i64 y24.n, vI .i64 y24.trap]) (by kernel_rfl) (fun _ hw => row_ld ((hw.1).getG 9 rfl) hy24 (Fr.refl No _) (fun h => h) 0 9 (by kernel_rfl)) (by kernel_rfl)) fun ac hA => st_s hA (Runs.call (fun _ => by kernel_rfl) (e_kcomeS n6 n7 G n9 T (en) s k y24 w34 ((hW).get 2 rfl) ((hW).lt _ (List.mem_of_getElem? (i := 2) rfl)) ((hW).getG 8 rfl) ((hW).gd _ (List.mem_of_getElem? (i := 8) rfl) _ (List.mem_of_getElem? (i := 2) rfl)) hK (by first | omega | decide | assumption | exact ⟨by omega, by omega⟩) (by first | omega | decide | assumption | exact ⟨by omega, by omega⟩) (by first | omega | decide | assumption | exact ⟨by omega, by omega⟩) hRe.own) ?_)
       rintro _ w35 ⟨u36, u37, u38, u39, u40, rfl, hw35_hE, hw35_hK, hnf_, hne_, hu_⟩; refine ⟨_, rfl, ?_⟩; have hW0 := hW; have hW := hW.upd (H' := [Cel br12_10 #[vI .u64 ((en)), vS AoLr12_5 g3r12_5.length coLr12_5, vS AoQr12_5 g4r12_5.length coQr12_5] 61, Cel b17 #[vI .u64 (en), vS AL L.length cL, vS AQ Q.length cQ] 61, ClkS n6 n7 u39 n9 u40 (en) u36 (k + 1)]) 2 rfl hu_ rfl; have hW := hW0.addFromU hW 2 rfl rfl hnf_ (in_cons (in_at 8 rfl) in_nil) hne_
       have hknv41 : ∀ x_ ∈ (NV [] u39 u40), capSV x_ := hw35_hK.cap
       clear hW0 hu_ hnf_ hne_  hA ac; intro ac hA
       refine st_p (vT #[vI .u64 u37, vI .i64 u38]) hA fun ac hA => st_p (vI .u64 u37) hA fun ac hA => st_p (vI .i64 u38) hA fun ac hA => st_p (vI .u64 u37) hA fun ac hA => st_p (vI .i64 u38) hA fun ac hA => wn <| wp_seq ?_
       have q_ := hw35_hE.trans hr12_5_hE.symm; have e1_ : g0r12_5 = u36 := (congrArg Prod.fst q_).symm; have e2_ : g1r12_5 = u37 := (congrArg (fun z_ => z_.2.1) q_).symm; have e3_ : g2r12_5 = u38 := (congrArg (fun z_ => z_.2.2) q_).symm; clear q_; subst e1_ e2_ e3_
       replace hW : Ws w No [Cel br12_10 #[vI .u64 ((en)), vS AoLr12_5 g3r12_5.length coLr12_5, vS AoQr12_5 g4r12_5.length coQr12_5] 61, Cel b17 #[vI .u64 (en), vS AL L.length cL, vS AQ Q.length cQ] 61, ClkS n6 n7 u39 n9 u40 (en) g0r12_5 (k + 1)] [nestR innerSV (NV [] u39 u40), nestR innerThg4 g4r12_5, nestR innerOne4 g3r12_5, roR AoQr12_5 3 enThg4 g4r12_5, roR AoLr12_5 2 enOne4 g3r12_5, roR AL 2 enOne4 L, roR AQ 3 enThg4 Q, nestR innerOne4 L, nestR innerThg4 Q, nestR innerSV (NV [] G T), roR (some ⟨b25, o26, none⟩) 9 enEvent l] w35 := hW
       refine wp_region_lit <| st_q (vA #[vI .u64 ((en)), vS AoLr12_5 g3r12_5.length coLr12_5, vS AoQr12_5 g4r12_5.length coQr12_5]) hA hW.cls (rl br12_10 0 0) ?_; clear hA ac; intro ac hA
       refine st_s hA (Runs.store (v := vA #[vI .u64 ((en)), vS AoLr12_5 g3r12_5.length coLr12_5, vS AoQr12_5 g4r12_5.length coQr12_5]) (b := b17) (j := 0) (n := 3) (cs' := #[vI .u64 ((en)), vS AoLr12_5 g3r12_5.length coLr12_5, vS AoQr12_5 g4r12_5.length coQr12_5]) (H' := [Cel br12_10 #[vI .u64 ((en)), vS AoLr12_5 g3r12_5.length coLr12_5, vS AoQr12_5 g4r12_5.length coQr12_5] 61, Cel b17 #[vI .u64 ((en)), vS AoLr12_5 g3r12_5.length coLr12_5, vS AoQr12_5 g4r12_5.length coQr12_5] 61, ClkS n6 n7 u39 n9 u40 (en) g0r12_5 (k + 1)]) (by kernel_rfl) (by kernel_rfl) (by kernel_rfl) (by kernel_rfl) (by kernel_rfl) hW 1 (by rfl) (Nat.le_of_ble_eq_true (by kernel_rfl)) (by kernel_rfl) (by rfl) ?_); clear hA ac hW; intro w42 hW ac hA
       refine wn <| wr <| st_p (vI .u64 g1r12_5) hA fun ac hA => st_p (vI .u64 g1r12_5) hA fun ac hA => st_p (vB ((g1r12_5 : Int) != (g1r12_5 : Int))) hA fun ac hA => st_p (vB ((g1r12_5 : Int) != (g1r12_5 : Int))) hA fun ac hA => ?_
       rcases Bool.eq_false_or_eq_true ((g1r12_5 : Int) != (g1r12_5 : Int)) with h43 | h43
       ·
        rw [h43] at hA
        have h43 := bne_iff_ne.1 h43
        first
        | (exfalso; clear hA hW; omega)
        | (
         refine st_k hA fun ac hA => st_k hA fun ac hA => st_k hA fun ac hA => st_k hA fun ac hA => st_p (vB true) hA fun ac hA => st_p (vB true) hA fun ac hA => st_k hA fun ac hA => st_k hA fun ac hA => st_k hA fun ac hA => st_k hA fun ac hA => st_k hA fun ac hA => st_k hA fun ac hA => st_p (vB true) hA fun ac hA => wn <| wp_cond_true (hA.eval (by kernel_rfl)) <| wr <| st_p (vB false) hA ?_; clear hA ac; intro ac hA
         refine wn <| wp_ret <| blkR <| thenR <| thenR <| blkR <| thenR <| r1 (vB false) hA ?_
         clear hA
         exact ⟨retv (by rfl), hW.fr⟩)
       rw [h43] at hA
       have h43 := of_bne_f h43
       first
       | (exfalso; clear hA hW; omega)
       | (
        refine st_p (vI .i64 g2r12_5) hA ?_; clear hA ac; intro ac hA
        refine st_s hA (Runs.callN (v := vI .i64 (g2r12_5)) (fun _ => by kernel_rfl) hW (e_num (g2r12_5) w42) ?_); clear hA ac hW; intro w44 hW hfw44 ac hA
        refine st_p (vI .i64 g2r12_5) hA fun ac hA => st_p (vB (((g2r12_5) : Int) != (g2r12_5 : Int))) hA fun ac hA => st_p (vB (((g2r12_5) : Int) != (g2r12_5 : Int))) hA fun ac hA => st_p (vB (((g2r12_5) : Int) != (g2r12_5 : Int))) hA fun ac hA => ?_
        rcases Bool.eq_false_or_eq_true (((g2r12_5) : Int) != (g2r12_5 : Int)) with h45 | h45
        ·
         rw [h45] at hA
         have h45 := bne_iff_ne.1 h45
         first
         | (exfalso; clear hA hW; omega)
         | (
          refine st_k hA fun ac hA => st_k hA fun ac hA => st_k hA fun ac hA => st_k hA fun ac hA => st_k hA fun ac hA => st_k hA fun ac hA => st_p (vB true) hA fun ac hA => wn <| wp_cond_true (hA.eval (by kernel_rfl)) <| wr <| st_p (vB false) hA ?_; clear hA ac; intro ac hA
          refine wn <| wp_ret <| blkR <| thenR <| thenR <| blkR <| thenR <| r1 (vB false) hA ?_
          clear hA
          exact ⟨retv (by rfl), hW.fr⟩)
        rw [h45] at hA
        have h45 := of_bne_f h45
        first
        | (exfalso; clear hA hW; omega)
        | (
         refine st_p (pA n6 0) hA fun ac hA => st_q (vA #[vI .u64 ((en)), vS AoLr12_5 g3r12_5.length coLr12_5, vS AoQr12_5 g4r12_5.length coQr12_5]) hA hW.cls (rl b17 0 1) fun ac hA => st_p (vI .i64 (k : Int)) hA fun ac hA => st_q (vI .i64 ((k % 4 : Nat) : Int)) hA hW.cls (Rd.pureE (v0 := vI .i64 (Int.tmod (k : Int) 4)) (fun _ => by kernel_rfl) (congrArg (vI .i64) (rem_ (x := (k : Int)) (by omega)))) fun ac hA => st_s hA (Runs.callN (v := vB true) (fun _ => by kernel_rfl) hW (e_is n6 n7 u39 n9 u40 (en) g0r12_5 (k + 1) AoLr12_5 coLr12_5 g3r12_5 AoQr12_5 coQr12_5 g4r12_5 (k + 1) (((k % 4 : Nat) : Int)) w44 (clk_join ((hW).get 2 rfl) ((hW).getG 0 rfl) ((hW).gd _ (List.mem_of_getElem? (i := 0) rfl) _ (List.mem_of_getElem? (i := 2) rfl))) (clk_lt ((hW).lt _ (List.mem_of_getElem? (i := 2) rfl)) ((hW).glt _ (List.mem_of_getElem? (i := 0) rfl))) ((hW).getG 4 rfl) (by first | assumption | omega | (simp; omega) | simp) ((hW).getG 2 rfl) hkcoLr12_5 ((hW).getG 3 rfl) (by first | assumption | omega | (simp; omega) | simp) ((hW).getG 1 rfl) hkcoQr12_5 (by first | omega | decide | assumption | exact ⟨by omega, by omega⟩) (by first | omega | decide | assumption | exact ⟨by omega, by omega⟩) (by first | omega | decide | assumption | exact ⟨by omega, by omega⟩) (by first | omega | decide | assumption | exact ⟨by omega, by omega⟩)) ?_); clear hA ac hW; intro w46 hW hfw46 ac hA
         refine st_p (vB false) hA fun ac hA => st_p (vB false) hA fun ac hA => wn <| wp_cond_false (hA.eval (by kernel_rfl)) <| wp_skip <| blkN <| thenN <| wp_region_lit <| st_p (vI .i64 (k : Int)) hA fun ac hA => st_q (vI .i64 ((k + 1 : Nat) : Int)) hA hW.cls (Rd.pureE (v0 := vI .i64 (IntKind.i64.wrap ((k : Int) + 1))) (fun _ => by kernel_rfl) (congrArg (vI .i64) ((w_i64 (x := (k : Int) + 1) (by omega) (by omega)).trans (by omega)))) fun ac hA => st_p (vI .i64 ((k + 1 : Nat) : Int)) hA fun ac hA => wn ?_
         exact ⟨l.length - (k + 1), by omega, k + 1, u39, u40, g0r12_5, g3r12_5, AoLr12_5, coLr12_5, g4r12_5, AoQr12_5, coQr12_5, rfl, by omega, by exact hw35_hK, by exact hr12_5_hD, by exact hRe.come hr12_5_hE, by exact (by first | assumption | omega | (simp; omega) | simp), by exact (by first | assumption | omega | (simp; omega) | simp), by exact hkcoLr12_5, by exact hkcoQr12_5, hA.sub (by and_intros <;> first | kernel_rfl | trivial), (hW.pick [1, 2] (by decide) rfl).pickG [4, 3, 2, 1, 0, 10] rfl⟩)))
     have h23 := of_decide_eq_false h23
     first
     | (exfalso; clear hA hW; omega)
     | (
      refine wp_exit <| thenX <| thenX <| blkX <| thenN <| wr <| st_s hA (Runs.callN (v := vB true) (fun _ => by kernel_rfl) hW (e_works w22) ?_); clear hA ac hW; intro w47 hW hfw47 ac hA
      refine st_p (vB true) hA ?_; clear hA ac; intro ac hA
      refine wn <| wp_ret <| r1 (vB true) hA ?_
      clear hA
      exact ⟨retv (by rfl), hW.fr⟩)))
  have h4 := of_decide_eq_false h4
  first
  | (exfalso; clear hA hW; omega)
  | (
   have hfl_ := few_len (show fewOk l 50 = true from h2)
   refine wp_region_lit <| st_p (vI .u64 en) hA ?_; clear hA ac; intro ac hA
   refine st_s hA (Runs.callN (v := vT #[vP none, vI .i64 2]) (fun _ => by kernel_rfl) hW (e_knewB (en) w1 (by first | omega | decide | assumption | exact ⟨by omega, by omega⟩) (by first | omega | decide | assumption | exact ⟨by omega, by omega⟩)) ?_); clear hA ac hW; intro w48 hW hfw48 ac hA
   refine st_p (vT #[vP none, vI .i64 2]) hA fun ac hA => st_p (vP none) hA fun ac hA => st_p (vI .i64 2) hA fun ac hA => st_p (vP none) hA fun ac hA => st_p (vI .i64 2) hA fun ac hA => wn <| wr <| st_p (vI .u64 en) hA ?_; clear hA ac; intro ac hA
   refine st_s hA (Runs.callN (v := vT #[vA #[vI .u64 0, vS none 0 0, vS none 0 0], vI .i64 2]) (fun _ => by kernel_rfl) hW (e_dnewB (en) w48 (by first | omega | decide | assumption | exact ⟨by omega, by omega⟩) (by first | omega | decide | assumption | exact ⟨by omega, by omega⟩)) ?_); clear hA ac hW; intro w49 hW hfw49 ac hA
   refine st_p (vT #[vA #[vI .u64 0, vS none 0 0, vS none 0 0], vI .i64 2]) hA fun ac hA => st_p (vA #[vI .u64 0, vS none 0 0, vS none 0 0]) hA fun ac hA => st_p (vI .i64 2) hA fun ac hA => st_s hA (Runs.cells (fun b => pA b 0) #[vI .u64 0, vS none 0 0, vS none 0 0] 61 (fun _ => by kernel_rfl) hW ?_); clear hA ac hW; intro b50 w51 hW hb50 hfw51 ac hA
   refine st_s hA (Runs.store (v := vA #[vI .u64 0, vS none 0 0, vS none 0 0]) (b := b50) (j := 0) (n := 3) (cs' := #[vI .u64 0, vS none 0 0, vS none 0 0]) (H' := [Cel b50 #[vI .u64 0, vS none 0 0, vS none 0 0] 61]) (by kernel_rfl) (by kernel_rfl) (by kernel_rfl) (by kernel_rfl) (by kernel_rfl) hW 0 (by rfl) (Nat.le_of_ble_eq_true (by kernel_rfl)) (by kernel_rfl) (by rfl) ?_); clear hA ac hW; intro w52 hW ac hA
   refine st_p (vI .i64 2) hA ?_; clear hA ac; intro ac hA
   refine wn <| wp_seq <| wr <| st_p (vI .i64 2) hA ?_; clear hA ac; intro ac hA
   refine st_s hA (Runs.callN (v := vI .i64 (2)) (fun _ => by kernel_rfl) hW (e_num (2) w52) ?_); clear hA ac hW; intro w53 hW hfw53 ac hA
   refine st_p (vI .i64 2) hA fun ac hA => st_p (vB (((2) : Int) != (2 : Int))) hA fun ac hA => st_p (vB (((2) : Int) != (2 : Int))) hA fun ac hA => ?_
   rcases Bool.eq_false_or_eq_true (((2) : Int) != (2 : Int)) with h54 | h54
   ·
    rw [h54] at hA
    have h54 := bne_iff_ne.1 h54
    first
    | (exfalso; clear hA hW; omega)
    | (
     refine st_k hA fun ac hA => st_k hA fun ac hA => st_k hA fun ac hA => st_k hA fun ac hA => st_k hA fun ac hA => st_p (vB true) hA fun ac hA => wn <| wp_cond_true (hA.eval (by kernel_rfl)) <| wr <| st_p (vB false) hA ?_; clear hA ac; intro ac hA
     refine wn <| wp_ret <| thenR <| r1 (vB false) hA ?_
     clear hA
     exact ⟨retv (by rfl), hW.fr⟩)
   rw [h54] at hA
   have h54 := of_bne_f h54
   first
   | (exfalso; clear hA hW; omega)
   | (
    refine st_p (vP none) hA fun ac hA => st_p (vB false) hA fun ac hA => st_p (vI .i64 2) hA fun ac hA => st_p (vB false) hA fun ac hA => st_p (vB false) hA fun ac hA => st_p (vB false) hA fun ac hA => wn <| wp_cond_false (hA.eval (by kernel_rfl)) <| wp_skip <| thenN <| wp_seq <| wr <| st_p (vI .i64 2) hA fun ac hA => st_p (vB true) hA fun ac hA => wn <| wp_cond_true (hA.eval (by kernel_rfl)) <| wr <| st_s hA (Runs.callN (v := vB true) (fun _ => by kernel_rfl) hW (e_works w53) ?_); clear hA ac hW; intro w55 hW hfw55 ac hA
    refine st_p (vB true) hA ?_; clear hA ac; intro ac hA
    refine wn <| wp_ret <| thenR <| r1 (vB true) hA ?_
    clear hA
    exact ⟨retv (by rfl), hW.fr⟩)))

theorem clocksCome_walk (en : Int) (A : Option Addr) (len cap : Nat) (l : List Event) (w : World) (he : (Lit.int .u64 en).wf = true) (hl : l.length = len) (hc : len ≤ cap) (hm : cap ≤ maxLen) (hw : ∀ x ∈ l, wfEvent x) (hr : RowAt w A 9 enEvent l) :
    Calls Tryz.prog 4 #[.int .u64 en, .slice A len cap] w fun e w' => e = .returned (.bool true) ∧ Fr No w w' := by
  subst hl
  refine e_clocksCome en A cap l w hr hc (by simp [Lit.wf, IntKind.min, IntKind.max] at he; simp only [IntKind.bits, IntKind.signed] at he; simp at he; omega) (Nat.le_trans (Nat.le_trans hc hm) (by decide)) (fun x hx => wf_event (hw x hx))

end Go.Proofs.YtjegpelofdopmaaGreatDoor.L
