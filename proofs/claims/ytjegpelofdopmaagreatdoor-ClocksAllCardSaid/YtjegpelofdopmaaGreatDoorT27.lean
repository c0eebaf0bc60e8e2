/- Contracts, walked by program over the engine's laws. -/
import Derived.Test.YtjegpelofdopmaaGreatDoorProg
import Derived.Test.YtjegpelofdopmaaGreatDoorT25
namespace Go.Proofs.YtjegpelofdopmaaGreatDoor.L
open Go.RowKit
open Go.Value renaming int → vI, slice → vS, bool → vB, pointer → vP, func → vF, agg → vA, map → vM, tuple → vT

def deEvent : List Value → Event
  | [.int _ a0, .int _ a1, .int _ a2, .int _ a3, .int _ a4, .int _ a5, .int _ a6, .int _ a7, .int _ a8] => ⟨a0, a1, ⟨a2, a3⟩, a4, a5, a6, a7, a8⟩
  | _ => ⟨0, 0, ⟨0, 0⟩, 0, 0, 0, 0, 0⟩
def wfEvent (x : Event) : Prop := (Lit.int .i64 x.g).wf = true ∧ (Lit.int .i64 x.kind).wf = true ∧ (Lit.int .i64 x.site.f).wf = true ∧ (Lit.int .i64 x.site.pc).wf = true ∧ (Lit.int .u32 x.addr).wf = true ∧ (Lit.int .i64 x.child).wf = true ∧ (Lit.int .i64 x.obj).wf = true ∧ (Lit.int .i64 x.n).wf = true ∧ (Lit.int .i64 x.trap).wf = true ∧ True
theorem deEvent_ok (cs : List Value) (h : cksOk [.int .i64, .int .i64, .int .i64, .int .i64, .int .u32, .int .i64, .int .i64, .int .i64, .int .i64] cs) : enEvent (deEvent cs) = cs ∧ wfEvent (deEvent cs) := by
  have hl := cksOk_length h
  match cs, hl, h with
  | [c0, c1, c2, c3, c4, c5, c6, c7, c8], _, ⟨⟨_, h0, w0⟩, ⟨_, h1, w1⟩, ⟨_, h2, w2⟩, ⟨_, h3, w3⟩, ⟨_, h4, w4⟩, ⟨_, h5, w5⟩, ⟨_, h6, w6⟩, ⟨_, h7, w7⟩, ⟨_, h8, w8⟩, _⟩ =>
    subst h0 h1 h2 h3 h4 h5 h6 h7 h8
    exact ⟨rfl, w0, w1, w2, w3, w4, w5, w6, w7, w8, trivial⟩
theorem flatEvent {v : Value} (h : cksOk [.int .i64, .int .i64, .int .i64, .int .i64, .int .u32, .int .i64, .int .i64, .int .i64, .int .i64] v.cells.toList) : ∃ x : Event, v = x.v ∧ wfEvent x := by
  have hl := cksOk_length h
  cases v with
  | agg a => exact ⟨deEvent a.toList, by have := (deEvent_ok _ h).1; have h2 := congrArg List.toArray this; exact congrArg vA (h2.symm), (deEvent_ok _ h).2⟩
  | _ => simp [Value.cells] at hl
theorem few_len {l : List Event} {m : Int} (h : fewOk l m = true) : (l.length : Int) ≤ m := by unfold fewOk at h; rw [Bool.and_eq_true] at h; exact of_decide_eq_true h.2
theorem wf_event {x : Event} (h : wfEvent x) : ((-9223372036854775808 ≤ x.kind ∧ x.kind ≤ 9223372036854775807) ∧ 0 ≤ x.addr ∧ x.addr ≤ 4294967295) ∧ (-9223372036854775808 ≤ x.g ∧ x.g ≤ 9223372036854775807 ∧ -9223372036854775808 ≤ x.child ∧ x.child ≤ 9223372036854775807) ∧ -9223372036854775808 ≤ x.obj ∧ x.obj ≤ 9223372036854775807 := by
  obtain ⟨h0, h1, -, -, h2, h3, h4, -⟩ := h
  simp [Lit.wf, IntKind.min, IntKind.max] at h0 h1 h2 h3 h4
  simp only [IntKind.bits, IntKind.signed] at h0 h1 h2 h3 h4
  simp at h0 h1 h2 h3 h4
  omega
set_option maxHeartbeats 4000000 in
set_option maxRecDepth 100000 in
theorem e_clocksAll (en : Int) (A_l : Option Addr) (c_l : Nat) (l : List Event) (w : World) (hr_l : RowAt w A_l 9 enEvent l) (hc_l : l.length ≤ c_l) (he : 0 ≤ en ∧ en ≤ 18446744073709551615) (hl : l.length ≤ 9223372036854775807) (hel : ∀ x ∈ l, ((-9223372036854775808 ≤ x.kind ∧ x.kind ≤ 9223372036854775807) ∧ 0 ≤ x.addr ∧ x.addr ≤ 4294967295) ∧ (-9223372036854775808 ≤ x.g ∧ x.g ≤ 9223372036854775807 ∧ -9223372036854775808 ≤ x.child ∧ x.child ≤ 9223372036854775807) ∧ -9223372036854775808 ≤ x.obj ∧ x.obj ≤ 9223372036854775807) : Calls Tryz.prog 5 #[vI .u64 en, vS A_l l.length c_l] w (fun e w' => e = .returned (vB true) ∧ Fr No w w') := by
 have _hu := hc_l; have _hv := hr_l; clear _hu _hv
 have _hu := he; clear _hu
 have _hu := hl; clear _hu
 have _hu := hel; clear _hu
 refine enter_E 107 Tryz.func5 rfl rfl (by kernel_rfl) (L := [(0, vI .u64 en), (1, vS A_l l.length c_l)]) (by kernel_rfl) ?_
 intro ac hA
 have hW := Ws.start w No
 have hW := hW.arg hr_l
 refine wr <| st_p (vB false) hA ?_; clear hA ac; intro ac hA
 refine wn <| wp_seq <| wr <| st_p (vS A_l l.length c_l) hA ?_; clear hA ac; intro ac hA
 refine st_s hA (Runs.callN (v := vB (fewOk l (50))) (fun _ => by kernel_rfl) hW (e_lfew A_l c_l l (50) w ((hW).getG 0 rfl) (by first | assumption | omega | (simp; omega) | simp) hl (fun x hx => (hel x hx).1) (by decide) (by decide)) ?_); clear hA ac hW; intro w1 hW hfw1 ac hA
 refine st_p (vB (!(fewOk l (50)))) hA ?_; clear hA ac; intro ac hA
 refine wn <| wp_cond_split (t := !(fewOk l (50))) (hA.eval (by kernel_rfl)) (fun h2 => ?_) (fun h2 => ?_)
 ·
  have h2 := not_t h2
  first
  | (exfalso; clear hA hW; omega)
  | (
   refine wr <| st_s hA (Runs.callN (v := vB true) (fun _ => by kernel_rfl) hW (e_works w1) ?_); clear hA ac hW; intro w3 hW hfw3 ac hA
   refine st_p (vB true) hA ?_; clear hA ac; intro ac hA
   refine wn <| wp_ret <| thenR <| r1 (vB true) hA ?_
   clear hA
   exact ⟨retv (by rfl), hW.fr⟩)
 have h2 := not_f h2
 first
 | (exfalso; clear hA hW; omega)
 | (
  refine wp_skip <| thenN <| wp_seq ?_
  have hfl_ := few_len (show fewOk l 50 = true from h2)
  rcases Bool.eq_false_or_eq_true (decide (1 ≤ en ∧ en ≤ 281474976710655)) with h4 | h4
  ·
   have h4 := of_decide_eq_true h4
   first
   | (exfalso; clear hA hW; omega)
   | (
    have hfl_ := few_len (show fewOk l 50 = true from h2)
    refine wp_region_lit <| st_p (vI .u64 en) hA ?_; clear hA ac; intro ac hA
    refine st_s hA (Runs.call (fun _ => by kernel_rfl) (e_knew (en) w1 (by first | omega | decide | assumption | exact ⟨by omega, by omega⟩)) ?_)
    rintro _ w5 ⟨n6, n7, n8, n9, n10, rfl, hw5_hK, hu_⟩; refine ⟨_, rfl, ?_⟩; replace hW := hW.made hu_; clear hA ac; intro ac hA
    refine st_p (vT #[pA n6 0, vI .i64 0]) hA fun ac hA => st_p (pA n6 0) hA fun ac hA => st_p (vI .i64 0) hA fun ac hA => st_p (pA n6 0) hA fun ac hA => st_p (vI .i64 0) hA fun ac hA => wn <| wp_seq ?_
    have hW : Ws w No [Cel n6 #[vM (some n7), vM (some n9), vI .u64 (en)] 77, mapR n7 (fun a : Int => vI .i64 a) SV.v n8, mapR n9 Thing.v SV.v n10, nestR innerSV (NV [] n8 n10)] [roR A_l 9 enEvent l] w5 := Ws.unpack (hW.pick [0] (by decide) rfl)
    have hW := hW.share 3 rfl (H' := [Cel n6 #[vM (some n7), vM (some n9), vI .u64 (en)] 77, mapR n7 (fun a : Int => vI .i64 a) SV.v n8, mapR n9 Thing.v SV.v n10]) rfl
    have hW : Ws w No [ClkS n6 n7 n8 n9 n10 (en) kst0 0] [nestR innerSV (NV [] n8 n10), roR A_l 9 enEvent l] w5 := Ws.pack (hW.pick [0, 1, 2] (by decide) rfl)
    refine wp_region_lit <| st_p (vI .u64 en) hA ?_; clear hA ac; intro ac hA
    refine st_s hA (Runs.call (fun _ => by kernel_rfl) (e_dnew (en) w5 (by first | omega | decide | assumption | exact ⟨by omega, by omega⟩)) ?_)
    rintro _ w11 ⟨g12, AoL13, coL14, AoQ15, coQ16, rfl, hw11_hD, hccoL14, hccoQ16, hkcoL14, hkcoQ16, hfcoL14, hfcoQ16, hnfcoL14, hnfcoQ16, hfw11⟩; refine ⟨_, rfl, ?_⟩; have hW0 := hW; have hW := hW0.call hfw11
    have hW := hW0.addFromAt hW hfcoL14 in_nil
    have hW := hW0.addFromAt hW hfcoQ16 in_nil
    have hW := hW0.addFromAt hW hnfcoL14 in_nil
    have hW := hW0.addFromAt hW hnfcoQ16 in_nil
    clear hW0 hA ac; intro ac hA
    refine st_p (vT #[vA #[vI .u64 (en), vS AoL13 g12.length coL14, vS AoQ15 (([] : List Thg4)).length coQ16], vI .i64 0]) hA fun ac hA => st_p (vA #[vI .u64 (en), vS AoL13 g12.length coL14, vS AoQ15 (([] : List Thg4)).length coQ16]) hA fun ac hA => st_p (vI .i64 0) hA fun ac hA => st_s hA (Runs.cells (fun b => pA b 0) #[vI .u64 0, vS none 0 0, vS none 0 0] 61 (fun _ => by kernel_rfl) hW ?_); clear hA ac hW; intro b17 w18 hW hb17 hfw18 ac hA
    refine st_s hA (Runs.store (v := vA #[vI .u64 (en), vS AoL13 g12.length coL14, vS AoQ15 (([] : List Thg4)).length coQ16]) (b := b17) (j := 0) (n := 3) (cs' := #[vI .u64 (en), vS AoL13 g12.length coL14, vS AoQ15 (([] : List Thg4)).length coQ16]) (H' := [Cel b17 #[vI .u64 (en), vS AoL13 g12.length coL14, vS AoQ15 (([] : List Thg4)).length coQ16] 61, ClkS n6 n7 n8 n9 n10 (en) kst0 0]) (by kernel_rfl) (by kernel_rfl) (by kernel_rfl) (by kernel_rfl) (by kernel_rfl) hW 0 (by rfl) (Nat.le_of_ble_eq_true (by kernel_rfl)) (by kernel_rfl) (by rfl) ?_); clear hA ac hW; intro w19 hW ac hA
    refine st_p (vI .i64 0) hA ?_; clear hA ac; intro ac hA
    refine wn <| wp_seq <| wr <| st_p (vI .i64 0) hA fun ac hA => st_p (vB false) hA fun ac hA => wn <| wp_cond_false (hA.eval (by kernel_rfl)) <| wp_skip <| thenN <| wr <| st_p (vS none 0 0) hA ?_; clear hA ac; intro ac hA
    refine wn <| wr <| st_p (vI .i64 0) hA ?_; clear hA ac; intro ac hA
    refine wn <| wp_seq <| wr <| st_p (vI .i64 0) hA ?_; clear hA ac; intro ac hA
    refine wn <| wp_block ?_
    have hW := hW.addNil 43 1 enEpo
    refine wp_loop_m (fun m_ ac_ wl_ => ∃ i : Nat, ∃ s : KSt, ∃ no : Int, ∃ L : List One4, ∃ AL : Option Addr, ∃ cL : Nat, ∃ Q : List Thg4, ∃ AQ : Option Addr, ∃ cQ : Nat, ∃ P : List Int, ∃ AP : Option Addr, ∃ cP : Nat, m_ = l.length - i ∧ (i ≤ l.length) ∧ (DOk (en) i s L Q) ∧ (Reach (en) s) ∧ ((no = 0 ∧ allK (en) kst0 (l.take i) = (s, P, 0)) ∨ (no ≠ 0 ∧ allK (en) kst0 l = (s, P, no))) ∧ (L.length ≤ cL) ∧ (Q.length ≤ cQ) ∧ (∀ x_ ∈ L, capOne4 x_) ∧ (∀ x_ ∈ Q, capThg4 x_) ∧ (P.length ≤ cP) ∧ (P.length ≤ i) ∧ Fm 107 [] [(0, vI .u64 en), (1, vS A_l l.length c_l), (5, pA n6 0), (6, vI .i64 0), (7, pA b17 0), (9, vS AP P.length cP), (10, vI .i64 no), (11, vI .i64 (i : Int))] ac_ ∧ Ws w No [rowR 43 1 enEpo (vS AP P.length cP) P, Cel b17 #[vI .u64 (en), vS AL L.length cL, vS AQ Q.length cQ] 61, ClkS n6 n7 n8 n9 n10 (en) kst0 0] [roR AL 2 enOne4 L, roR AQ 3 enThg4 Q, nestR innerOne4 L, nestR innerThg4 Q, nestR innerSV (NV [] n8 n10), roR A_l 9 enEvent l] wl_) _ ⟨0, kst0, 0, g12, AoL13, coL14, ([] : List Thg4), AoQ15, coQ16, ([] : List Int), none, 0, rfl, by omega, by exact hw11_hD, by exact .start, by exact .inl ⟨rfl, rfl⟩, by exact (by first | assumption | omega | (simp; omega) | simp), by exact (by first | assumption | omega | (simp; omega) | simp), by exact hkcoL14, by exact hkcoQ16, by simp, by simp, hA.sub (by and_intros <;> first | kernel_rfl | trivial), (hW.pick [0, 1, 2] (by decide) rfl).pickG [3, 2, 1, 0, 4, 5] rfl⟩ ?_
    clear hA ac hW; rintro m_ ac w20 ⟨i, s, no, L, AL, cL, Q, AQ, cQ, P, AP, cP, rfl, hi, hD, hRe, hP, hcL, hcQ, hkL, hkQ, hcP, hPl, hA, hW⟩
    refine wp_seq <| wr <| st_p (vI .i64 (i : Int)) hA fun ac hA => st_p (vS A_l l.length c_l) hA fun ac hA => st_p (vI .i64 (l.length : Int)) hA fun ac hA => st_p (vB (decide ((i : Int) < (l.length : Int)))) hA fun ac hA => st_p (vB (decide ((i : Int) < (l.length : Int)))) hA fun ac hA => ?_
    rcases Bool.eq_false_or_eq_true (decide ((i : Int) < (l.length : Int))) with h21 | h21
    ·
     rw [h21] at hA
     have h21 := of_decide_eq_true h21
     first
     | (exfalso; clear hA hW; omega)
     | (
      refine st_p (vI .i64 no) hA fun ac hA => st_p (vB ((no : Int) == (0 : Int))) hA fun ac hA => st_p (vB ((no : Int) == (0 : Int))) hA fun ac hA => wn <| wp_cond_split (t := (no : Int) == (0 : Int)) (hA.eval (by kernel_rfl)) (fun h22 => ?_) (fun h22 => ?_)
      ·
       have h22 := eq_of_beq h22
       first
       | (exfalso; clear hA hW; omega)
       | (
        refine wp_skip <| thenN <| wp_seq <| wp_block <| wp_seq ?_
        obtain ⟨y23, hy23⟩ : ∃ y, l[i]? = some y := ⟨_, List.getElem?_eq_getElem (by omega)⟩
        obtain ⟨b24, o25, rfl, hbb24⟩ := row_some ((hW).getG 5 rfl) hy23
        have hyr_ := hel _ (List.mem_of_getElem? hy23); have hyk_ := hyr_.1.1; have hyo_ := hyr_.2.2; have hyg_ := hyr_.2.1; have hya_ := hyr_.1.2; have hP0_ := (hP.resolve_right (fun h_ => h_.1 (by omega))).2
        refine wp_cut (fun ac_ wl_ => ∃ AoLr12_5 : Option Addr, ∃ AoQr12_5 : Option Addr, ∃ br12_10 : Nat, ∃ coLr12_5 : Nat, ∃ coQr12_5 : Nat, ∃ g0r12_5 : KSt, ∃ g1r12_5 : Int, ∃ g2r12_5 : Int, ∃ g3r12_5 : List One4, ∃ g4r12_5 : List Thg4, (g3r12_5.length ≤ coLr12_5) ∧ (g4r12_5.length ≤ coQr12_5) ∧ (∀ x_ ∈ g3r12_5, capOne4 x_) ∧ (∀ x_ ∈ g4r12_5, capThg4 x_) ∧ (DOk ((en)) (i + 1) g0r12_5 g3r12_5 g4r12_5) ∧ ((g0r12_5, g1r12_5, g2r12_5) = comeK ((en)) s y23) ∧ Fm 107 [] [(0, vI .u64 en), (1, vS (some ⟨b24, o25, none⟩) l.length c_l), (5, pA n6 0), (6, vI .i64 0), (7, pA b17 0), (9, vS AP P.length cP), (10, vI .i64 no), (11, vI .i64 (i : Int)), (12, pA br12_10 0), (13, vI .u64 g1r12_5), (14, vI .i64 g2r12_5), (41, vI .i64 (i : Int)), (42, vS (some ⟨b24, o25, none⟩) l.length c_l), (43, vI .i64 (l.length : Int)), (44, vB true), (45, vB true), (46, vI .i64 no), (47, vB ((no : Int) == (0 : Int))), (48, vB ((no : Int) == (0 : Int)))] ac_ ∧ Ws w No [Cel br12_10 #[vI .u64 ((en)), vS AoLr12_5 g3r12_5.length coLr12_5, vS AoQr12_5 g4r12_5.length coQr12_5] 61, rowR 43 1 enEpo (vS AP P.length cP) P, Cel b17 #[vI .u64 (en), vS AL L.length cL, vS AQ Q.length cQ] 61, ClkS n6 n7 n8 n9 n10 (en) kst0 0] [nestR innerThg4 g4r12_5, nestR innerOne4 g3r12_5, roR AoQr12_5 3 enThg4 g4r12_5, roR AoLr12_5 2 enOne4 g3r12_5, roR AL 2 enOne4 L, roR AQ 3 enThg4 Q, nestR innerOne4 L, nestR innerThg4 Q, nestR innerSV (NV [] n8 n10), roR (some ⟨b24, o25, none⟩) 9 enEvent l] wl_) ?_ ?_
        · refine sr_region (m := 14) (C := Ws w No [rowR 43 1 enEpo (vS AP P.length cP) P, Cel b17 #[vI .u64 (en), vS AL L.length cL, vS AQ Q.length cQ] 61, ClkS n6 n7 n8 n9 n10 (en) kst0 0] [roR AL 2 enOne4 L, roR AQ 3 enThg4 Q, nestR innerOne4 L, nestR innerThg4 Q, nestR innerSV (NV [] n8 n10), roR (some ⟨b24, o25, none⟩) 9 enEvent l]) (fun i => [0, 4].contains i) (fun i => [0, 4, 10].contains i) (fun i => [1, 2, 3, 6, 7, 8, 9, 12, 13].contains i) (by kernel_rfl) (by kernel_rfl) (by kernel_rfl) (by kernel_rfl) hW ?_; clear hW; intro w26 hW hfw26 hR; have hC : Ws w No [rowR 43 1 enEpo (vS AP P.length cP) P, Cel b17 #[vI .u64 (en), vS AL L.length cL, vS AQ Q.length cQ] 61, ClkS n6 n7 n8 n9 n10 (en) kst0 0] [roR AL 2 enOne4 L, roR AQ 3 enThg4 Q, nestR innerOne4 L, nestR innerThg4 Q, nestR innerSV (NV [] n8 n10), roR (some ⟨b24, o25, none⟩) 9 enEvent l] w26 := hW.pick [0, 1, 2] (by decide) rfl
          refine sr_t 0 (vA #[vI .u64 (en), vS AL L.length cL, vS AQ Q.length cQ]) hR rfl hA hC (Rd.load (b := b17) (i := 0) (by kernel_rfl) (fun _ hw => (hw).cel 1 rfl) (by kernel_rfl)) fun ac hA => sr_p 1 (vS (some ⟨b24, o25, none⟩) l.length c_l) hR rfl hA fun ac hA => sr_p 2 (vI .i64 (i : Int)) hR rfl hA fun ac hA => sr_q 3 (vP (some ⟨b24, o25 + i * 9, none⟩)) hR rfl hA (Rd.indexAddr (e := 42) (sz := 9) (b := b24) (off := o25) (n := l.length) (c := c_l) (k := i) (by kernel_rfl) (by kernel_rfl) (by first | omega | (simp; done) | (simp; omega)) (fun _ => by kernel_rfl) (fun _ => by kernel_rfl)) fun ac hA => sr_t 4 (vA #[vI .i64 y23.g, vI .i64 y23.kind, vI .i64 y23.site.f, vI .i64 y23.site.pc, vI .u32 y23.addr, vI .i64 y23.child, vI .i64 y23.obj, vI .i64 y23.n, vI .i64 y23.trap]) hR rfl hA hC (Rd.loadRow (b := b24) (i := o25 + i * 9) (xs := [vI .i64 y23.g, vI .i64 y23.kind, vI .i64 y23.site.f, vI .i64 y23.site.pc, vI .u32 y23.addr, vI .i64 y23.child, vI .i64 y23.obj, vI .i64 y23.n, vI .i64 y23.trap]) (by kernel_rfl) (fun _ hw => row_ld ((hw).getG 5 rfl) hy23 (Fr.refl No _) (fun h => h) 0 9 (by kernel_rfl)) (by kernel_rfl)) fun ac hA => sr_two (i := 5) (j := 10) (by kernel_rfl) ?_ ?_
          ·
           refine (sr_d rfl hA (Runs.call (fun _ => by kernel_rfl) (e_dcome ((en)) AL cL L AQ cQ Q s i y23 w26 ((hW).getG 0 rfl) (by first | assumption | omega | (simp; omega) | simp) ((hW).getG 2 rfl) hkL ((hW).getG 1 rfl) (by first | assumption | omega | (simp; omega) | simp) ((hW).getG 3 rfl) hkQ (by first | omega | decide | assumption | exact ⟨by omega, by omega⟩) (by first | omega | decide | assumption | exact ⟨by omega, by omega⟩) (by first | omega | decide | assumption | exact ⟨by omega, by omega⟩) (by first | omega | decide | assumption | exact ⟨by omega, by omega⟩) (by first | omega | decide | assumption | exact ⟨by omega, by omega⟩) hRe.own) ?_))
           rintro _ w27 ⟨g0r12_5, g1r12_5, g2r12_5, g3r12_5, g4r12_5, AoLr12_5, coLr12_5, AoQr12_5, coQr12_5, rfl, hr12_5_hE, hr12_5_hD, hccoLr12_5, hccoQr12_5, hkcoLr12_5, hkcoQr12_5, hfcoLr12_5, hfcoQr12_5, hnfcoLr12_5, hnfcoQr12_5, hfw27⟩; refine ⟨_, rfl, ?_⟩; have hW0 := hW; have hW := hW0.call hfw27
           have hW := hW0.addFromAt hW hfcoLr12_5 (in_cons (in_at 0 rfl) (in_cons (in_at 2 rfl) (in_cons (in_at 1 rfl) (in_cons (in_at 3 rfl) in_nil))))
           have hW := hW0.addFromAt hW hfcoQr12_5 (in_cons (in_at 0 rfl) (in_cons (in_at 2 rfl) (in_cons (in_at 1 rfl) (in_cons (in_at 3 rfl) in_nil))))
           have hW := hW0.addFromAt hW hnfcoLr12_5 (in_cons (in_at 0 rfl) (in_cons (in_at 2 rfl) (in_cons (in_at 1 rfl) (in_cons (in_at 3 rfl) in_nil))))
           have hW := hW0.addFromAt hW hnfcoQr12_5 (in_cons (in_at 0 rfl) (in_cons (in_at 2 rfl) (in_cons (in_at 1 rfl) (in_cons (in_at 3 rfl) in_nil))))
           clear hW0 hA ac; intro ac hA
           refine qn <| sr_p 6 (vT #[vA #[vI .u64 ((en)), vS AoLr12_5 g3r12_5.length coLr12_5, vS AoQr12_5 g4r12_5.length coQr12_5], vI .u64 g1r12_5, vI .i64 g2r12_5]) hR rfl hA fun ac hA => sr_p 7 (vA #[vI .u64 ((en)), vS AoLr12_5 g3r12_5.length coLr12_5, vS AoQr12_5 g4r12_5.length coQr12_5]) hR rfl hA fun ac hA => sr_p 8 (vI .u64 g1r12_5) hR rfl hA fun ac hA => sr_p 9 (vI .i64 g2r12_5) hR rfl hA fun ac hA => sr_one (i := 10) (by kernel_rfl) (sr_d rfl hA (Runs.cells (fun b => pA b 0) #[vI .u64 0, vS none 0 0, vS none 0 0] 61 (fun _ => by kernel_rfl) hW ?_)); clear hA ac hW; intro br12_10 w28 hW hbr12_10 hfw28 ac hA
           refine ⟨⟨fun _ => (hW.pick [1, 2, 3] (by decide) rfl).pickG [4, 5, 6, 7, 8, 9] rfl, fun h => absurd h (by decide)⟩, ?_⟩; have hC : Ws w No [rowR 43 1 enEpo (vS AP P.length cP) P, Cel b17 #[vI .u64 (en), vS AL L.length cL, vS AQ Q.length cQ] 61, ClkS n6 n7 n8 n9 n10 (en) kst0 0] [roR AL 2 enOne4 L, roR AQ 3 enThg4 Q, nestR innerOne4 L, nestR innerThg4 Q, nestR innerSV (NV [] n8 n10), roR (some ⟨b24, o25, none⟩) 9 enEvent l] w28 := (hW.pick [1, 2, 3] (by decide) rfl).pickG [4, 5, 6, 7, 8, 9] rfl
           refine sr_one (i := 11) (by kernel_rfl) (sr_d rfl hA (Runs.store (v := vA #[vI .u64 ((en)), vS AoLr12_5 g3r12_5.length coLr12_5, vS AoQr12_5 g4r12_5.length coQr12_5]) (b := br12_10) (j := 0) (n := 3) (cs' := #[vI .u64 ((en)), vS AoLr12_5 g3r12_5.length coLr12_5, vS AoQr12_5 g4r12_5.length coQr12_5]) (H' := [Cel br12_10 #[vI .u64 ((en)), vS AoLr12_5 g3r12_5.length coLr12_5, vS AoQr12_5 g4r12_5.length coQr12_5] 61, rowR 43 1 enEpo (vS AP P.length cP) P, Cel b17 #[vI .u64 (en), vS AL L.length cL, vS AQ Q.length cQ] 61, ClkS n6 n7 n8 n9 n10 (en) kst0 0]) (by kernel_rfl) (by kernel_rfl) (by kernel_rfl) (by kernel_rfl) (by kernel_rfl) hW 0 (by rfl) (Nat.le_of_ble_eq_true (by kernel_rfl)) (by kernel_rfl) (by rfl) ?_)); clear hA ac hW; intro w29 hW ac hA
           refine qn <| sr_p 12 (vI .u64 g1r12_5) hR rfl hA fun ac hA => sr_p 13 (vI .i64 g2r12_5) hR rfl hA fun ac hA => sr_done (by kernel_rfl) ?_ _
           exact ⟨AoLr12_5, AoQr12_5, br12_10, coLr12_5, coQr12_5, g0r12_5, g1r12_5, g2r12_5, g3r12_5, g4r12_5, hccoLr12_5, hccoQr12_5, hkcoLr12_5, hkcoQr12_5, hr12_5_hD, hr12_5_hE, hA.sub (by and_intros <;> first | kernel_rfl | trivial), (hW.pick [0, 1, 2, 3] (by decide) rfl).pickG [0, 1, 2, 3, 4, 5, 6, 7, 8, 9] rfl⟩
          ·
           refine (sr_d rfl hA (Runs.cells (fun b => pA b 0) #[vI .u64 0, vS none 0 0, vS none 0 0] 61 (fun _ => by kernel_rfl) hW ?_)); clear hA ac hW; intro br12_10 w30 hW hbr12_10 hfw30 ac hA
           refine ⟨⟨fun _ => (hW.pick [1, 2, 3] (by decide) rfl).pickG [0, 1, 2, 3, 4, 5] rfl, fun h => absurd h (by decide)⟩, ?_⟩; have hC : Ws w No [rowR 43 1 enEpo (vS AP P.length cP) P, Cel b17 #[vI .u64 (en), vS AL L.length cL, vS AQ Q.length cQ] 61, ClkS n6 n7 n8 n9 n10 (en) kst0 0] [roR AL 2 enOne4 L, roR AQ 3 enThg4 Q, nestR innerOne4 L, nestR innerThg4 Q, nestR innerSV (NV [] n8 n10), roR (some ⟨b24, o25, none⟩) 9 enEvent l] w30 := (hW.pick [1, 2, 3] (by decide) rfl).pickG [0, 1, 2, 3, 4, 5] rfl
           refine sr_one (i := 5) (by kernel_rfl) (sr_d rfl hA (Runs.call (fun _ => by kernel_rfl) (e_dcome ((en)) AL cL L AQ cQ Q s i y23 w30 ((hW).getG 0 rfl) (by first | assumption | omega | (simp; omega) | simp) ((hW).getG 2 rfl) hkL ((hW).getG 1 rfl) (by first | assumption | omega | (simp; omega) | simp) ((hW).getG 3 rfl) hkQ (by first | omega | decide | assumption | exact ⟨by omega, by omega⟩) (by first | omega | decide | assumption | exact ⟨by omega, by omega⟩) (by first | omega | decide | assumption | exact ⟨by omega, by omega⟩) (by first | omega | decide | assumption | exact ⟨by omega, by omega⟩) (by first | omega | decide | assumption | exact ⟨by omega, by omega⟩) hRe.own) ?_))
           rintro _ w31 ⟨g0r12_5, g1r12_5, g2r12_5, g3r12_5, g4r12_5, AoLr12_5, coLr12_5, AoQr12_5, coQr12_5, rfl, hr12_5_hE, hr12_5_hD, hccoLr12_5, hccoQr12_5, hkcoLr12_5, hkcoQr12_5, hfcoLr12_5, hfcoQr12_5, hnfcoLr12_5, hnfcoQr12_5, hfw31⟩; refine ⟨_, rfl, ?_⟩; have hW0 := hW; have hW := hW0.call hfw31
           have hW := hW0.addFromAt hW hfcoLr12_5 (in_cons (in_at 0 rfl) (in_cons (in_at 2 rfl) (in_cons (in_at 1 rfl) (in_cons (in_at 3 rfl) in_nil))))
           have hW := hW0.addFromAt hW hfcoQr12_5 (in_cons (in_at 0 rfl) (in_cons (in_at 2 rfl) (in_cons (in_at 1 rfl) (in_cons (in_at 3 rfl) in_nil))))
           have hW := hW0.addFromAt hW hnfcoLr12_5 (in_cons (in_at 0 rfl) (in_cons (in_at 2 rfl) (in_cons (in_at 1 rfl) (in_cons (in_at 3 rfl) in_nil))))
           have hW := hW0.addFromAt hW hnfcoQr12_5 (in_cons (in_at 0 rfl) (in_cons (in_at 2 rfl) (in_cons (in_at 1 rfl) (in_cons (in_at 3 rfl) in_nil))))
           clear hW0 hA ac; intro ac hA
           refine qn <| sr_p 6 (vT #[vA #[vI .u64 ((en)), vS AoLr12_5 g3r12_5.length coLr12_5, vS AoQr12_5 g4r12_5.length coQr12_5], vI .u64 g1r12_5, vI .i64 g2r12_5]) hR rfl hA fun ac hA => sr_p 7 (vA #[vI .u64 ((en)), vS AoLr12_5 g3r12_5.length coLr12_5, vS AoQr12_5 g4r12_5.length coQr12_5]) hR rfl hA fun ac hA => sr_p 8 (vI .u64 g1r12_5) hR rfl hA fun ac hA => sr_p 9 (vI .i64 g2r12_5) hR rfl hA fun ac hA => sr_one (i := 11) (by kernel_rfl) (sr_d rfl hA (Runs.store (v := vA #[vI .u64 ((en)), vS AoLr12_5 g3r12_5.length coLr12_5, vS AoQr12_5 g4r12_5.length coQr12_5]) (b := br12_10) (j := 0) (n := 3) (cs' := #[vI .u64 ((en)), vS AoLr12_5 g3r12_5.length coLr12_5, vS AoQr12_5 g4r12_5.length coQr12_5]) (H' := [Cel br12_10 #[vI .u64 ((en)), vS AoLr12_5 g3r12_5.length coLr12_5, vS AoQr12_5 g4r12_5.length coQr12_5] 61, rowR 43 1 enEpo (vS AP P.length cP) P, Cel b17 #[vI .u64 (en), vS AL L.length cL, vS AQ Q.length cQ] 61, ClkS n6 n7 n8 n9 n10 (en) kst0 0]) (by kernel_rfl) (by kernel_rfl) (by kernel_rfl) (by kernel_rfl) (by kernel_rfl) hW 0 (by rfl) (Nat.le_of_ble_eq_true (by kernel_rfl)) (by kernel_rfl) (by rfl) ?_)); clear hA ac hW; intro w32 hW ac hA
           refine qn <| sr_p 12 (vI .u64 g1r12_5) hR rfl hA fun ac hA => sr_p 13 (vI .i64 g2r12_5) hR rfl hA fun ac hA => sr_done (by kernel_rfl) ?_ _
           exact ⟨AoLr12_5, AoQr12_5, br12_10, coLr12_5, coQr12_5, g0r12_5, g1r12_5, g2r12_5, g3r12_5, g4r12_5, hccoLr12_5, hccoQr12_5, hkcoLr12_5, hkcoQr12_5, hr12_5_hD, hr12_5_hE, hA.sub (by and_intros <;> first | kernel_rfl | trivial), (hW.pick [0, 1, 2, 3] (by decide) rfl).pickG [0, 1, 2, 3, 4, 5, 6, 7, 8, 9] rfl⟩
        clear hA ac hW; rintro ac w33 ⟨AoLr12_5, AoQr12_5, br12_10, coLr12_5, coQr12_5, g0r12_5, g1r12_5, g2r12_5, g3r12_5, g4r12_5, hccoLr12_5, hccoQr12_5, hkcoLr12_5, hkcoQr12_5, hr12_5_hD, hr12_5_hE, hA, hW⟩
        refine thenN <| wr <| st_q (vA #[vI .u64 ((en)), vS AoLr12_5 g3r12_5.length coLr12_5, vS AoQr12_5 g4r12_5.length coQr12_5]) hA hW.cls (rl br12_10 0 0) ?_; clear hA ac; intro ac hA
        refine st_s hA (Runs.store (v := vA #[vI .u64 ((en)), vS AoLr12_5 g3r12_5.length coLr12_5, vS AoQr12_5 g4r12_5.length coQr12_5]) (b := b17) (j := 0) (n := 3) (cs' := #[vI .u64 ((en)), vS AoLr12_5 g3r12_5.length coLr12_5, vS AoQr12_5 g4r12_5.length coQr12_5]) (H' := [Cel br12_10 #[vI .u64 ((en)), vS AoLr12_5 g3r12_5.length coLr12_5, vS AoQr12_5 g4r12_5.length coQr12_5] 61, rowR 43 1 enEpo (vS AP P.length cP) P, Cel b17 #[vI .u64 ((en)), vS AoLr12_5 g3r12_5.length coLr12_5, vS AoQr12_5 g4r12_5.length coQr12_5] 61, ClkS n6 n7 n8 n9 n10 (en) kst0 0]) (by kernel_rfl) (by kernel_rfl) (by kernel_rfl) (by kernel_rfl) (by kernel_rfl) hW 2 (by rfl) (Nat.le_of_ble_eq_true (by kernel_rfl)) (by kernel_rfl) (by rfl) ?_); clear hA ac hW; intro w34 hW ac hA
        refine wn <| wr <| st_p (vI .i64 g2r12_5) hA fun ac hA => st_p (vI .i64 g2r12_5) hA fun ac hA => wn <| wr <| st_p (vI .i64 g2r12_5) hA fun ac hA => st_p (vB ((g2r12_5 : Int) == (0 : Int))) hA fun ac hA => wn <| wp_cond_split (t := (g2r12_5 : Int) == (0 : Int)) (hA.eval (by kernel_rfl)) (fun h35 => ?_) (fun h35 => ?_)
        ·
         have h35 := eq_of_beq h35
         first
         | (exfalso; clear hA hW; omega)
         | (
          refine wp_region_lit <| st_p (vS AP P.length cP) hA fun ac hA => st_p (vI .u64 g1r12_5) hA fun ac hA => st_s hA (Runs.cells (fun b => vS (some ⟨b, 0, none⟩) 1 1) #[vI .u64 g1r12_5] 43 (fun _ => by kernel_rfl) hW ?_); clear hA ac hW; intro b36 w37 hW hb36 hfw37 ac hA
          refine st_s hA (Runs.appOwn (B := (some ⟨b36, 0, none⟩)) (k := 1) (E := 43) (sz := 1) (en := enEpo) (l := P) (m := ([g1r12_5] : List Int)) (i := 2) (by kernel_rfl) (by kernel_rfl) elt_Epo (by kernel_rfl) hW rfl (rowAt_cel ((hW).cel 0 rfl) ([g1r12_5] : List Int) (by rfl) elt_Epo.len) (by first | omega | (simp; done) | (simp; omega)) (by first | omega | (simp; done) | (simp; omega)) ?_); clear hA ac hW; intro A38 c39 w40 hW hcc39 ac hA
          refine st_p (vS A38 (P ++ ([g1r12_5] : List Int)).length c39) hA ?_; clear hA ac; intro ac hA
          refine wpList_nil <| blkN <| thenN <| wp_region_lit <| st_p (vI .i64 (i : Int)) hA fun ac hA => st_q (vI .i64 ((i + 1 : Nat) : Int)) hA hW.cls (Rd.pureE (v0 := vI .i64 (IntKind.i64.wrap ((i : Int) + 1))) (fun _ => by kernel_rfl) (congrArg (vI .i64) ((w_i64 (x := (i : Int) + 1) (by omega) (by omega)).trans (by omega)))) fun ac hA => st_p (vI .i64 ((i + 1 : Nat) : Int)) hA fun ac hA => wn ?_
          exact ⟨l.length - (i + 1), by omega, i + 1, g0r12_5, g2r12_5, g3r12_5, AoLr12_5, coLr12_5, g4r12_5, AoQr12_5, coQr12_5, P ++ ([g1r12_5] : List Int), A38, c39, rfl, by omega, by exact hr12_5_hD, by exact hRe.come hr12_5_hE, by exact .inl ⟨by omega, allK_go hP0_ hy23 hr12_5_hE (by omega)⟩, by exact (by first | assumption | omega | (simp; omega) | simp), by exact (by first | assumption | omega | (simp; omega) | simp), by exact hkcoLr12_5, by exact hkcoQr12_5, by exact (own_cap ((hW).get 2 rfl)), by first | omega | (simp; omega), hA.sub (by and_intros <;> first | kernel_rfl | trivial), (hW.pick [2, 3, 4] (by decide) rfl).pickG [3, 2, 1, 0, 8, 9] rfl⟩)
        have h35 := ne_of_beq_false h35
        first
        | (exfalso; clear hA hW; omega)
        | (
         refine wp_skip <| blkN <| thenN <| wp_region_lit <| st_p (vI .i64 (i : Int)) hA fun ac hA => st_q (vI .i64 ((i + 1 : Nat) : Int)) hA hW.cls (Rd.pureE (v0 := vI .i64 (IntKind.i64.wrap ((i : Int) + 1))) (fun _ => by kernel_rfl) (congrArg (vI .i64) ((w_i64 (x := (i : Int) + 1) (by omega) (by omega)).trans (by omega)))) fun ac hA => st_p (vI .i64 ((i + 1 : Nat) : Int)) hA fun ac hA => wn ?_
         exact ⟨l.length - (i + 1), by omega, i + 1, g0r12_5, g2r12_5, g3r12_5, AoLr12_5, coLr12_5, g4r12_5, AoQr12_5, coQr12_5, P, AP, cP, rfl, by omega, by exact hr12_5_hD, by exact hRe.come hr12_5_hE, by exact .inr ⟨by omega, allK_stop hP0_ hy23 hr12_5_hE (by omega)⟩, by exact (by first | assumption | omega | (simp; omega) | simp), by exact (by first | assumption | omega | (simp; omega) | simp), by exact hkcoLr12_5, by exact hkcoQr12_5, by exact (own_cap ((hW).get 1 rfl)), by first | omega | (simp; omega), hA.sub (by and_intros <;> first | kernel_rfl | trivial), (hW.pick [1, 2, 3] (by decide) rfl).pickG [3, 2, 1, 0, 8, 9] rfl⟩))
      have h22 := ne_of_beq_false h22
      first
      | (exfalso; clear hA hW; omega)
      | (
       refine wp_exit <| thenX <| thenX <| blkX <| thenN <| wp_seq ?_
       have hAl_ : allK (en) kst0 l = (s, P, no) := by rcases hP with ⟨h1_, h2_⟩ | ⟨h1_, h2_⟩; (first | (exfalso; omega) | (rw [h1_]; rw [List.take_of_length_le (by omega)] at h2_; exact h2_)); exact h2_
       refine wp_region_lit <| st_p (pA n6 0) hA fun ac hA => st_p (vS A_l l.length c_l) hA fun ac hA => st_s hA (Runs.call (fun _ => by kernel_rfl) (e_kall n6 n7 n8 n9 n10 (en) kst0 0 A_l c_l l w20 ((hW).get 2 rfl) ((hW).lt _ (List.mem_of_getElem? (i := 2) rfl)) ((hW).getG 4 rfl) ((hW).gd _ (List.mem_of_getElem? (i := 4) rfl) _ (List.mem_of_getElem? (i := 2) rfl)) ((hW).getG 5 rfl) (by first | assumption | omega | (simp; omega) | simp) ((hW).gd _ (List.mem_of_getElem? (i := 5) rfl) _ (List.mem_of_getElem? (i := 2) rfl)) (by first | omega | decide | assumption | exact ⟨by omega, by omega⟩) (fun x hx => ⟨(hel x hx).1, (hel x hx).2.1⟩) (by first | omega | decide | assumption | exact ⟨by omega, by omega⟩) .start) ?_)
       rintro _ w41 ⟨u42, u43, u44, u45, u46, u47, Ao48, co49, rfl, hw41_hE, hw41_hK, hw41_hR, hw41_hn, hcco49, hfco49, hnf_, hne_, hu_⟩; refine ⟨_, rfl, ?_⟩; have hW0 := hW; have hW := hW.upd (H' := [rowR 43 1 enEpo (vS AP P.length cP) P, Cel b17 #[vI .u64 (en), vS AL L.length cL, vS AQ Q.length cQ] 61, ClkS n6 n7 u43 n9 u44 (en) u42 u47]) 2 rfl hu_ rfl; have hW := hW0.addFromU hW 2 rfl rfl hnf_ (in_cons (in_at 4 rfl) in_nil) hne_
       have hknv50 : ∀ x_ ∈ (NV [] u43 u44), capSV x_ := hw41_hK.cap
       have hW := hW0.addFromU hW 2 rfl rfl hfco49.1 in_nil hfco49.2
       clear hW0 hu_ hnf_ hne_ hfco49 hA ac; intro ac hA
       refine st_p (vT #[vS Ao48 u45.length co49, vI .i64 u46]) hA fun ac hA => st_p (vS Ao48 u45.length co49) hA fun ac hA => st_p (vI .i64 u46) hA fun ac hA => st_p (vS Ao48 u45.length co49) hA fun ac hA => st_p (vI .i64 u46) hA fun ac hA => wn <| wp_seq <| wp_seq ?_
       have q_ := (hw41_hE.trans hAl_).symm; have e1_ : s = u42 := congrArg Prod.fst q_; have e2_ : P = u45 := congrArg (fun z_ => z_.2.1) q_; have e3_ : no = u46 := congrArg (fun z_ => z_.2.2) q_; clear q_; subst e1_ e2_ e3_
       replace hW : Ws w No [rowR 43 1 enEpo (vS AP P.length cP) P, Cel b17 #[vI .u64 (en), vS AL L.length cL, vS AQ Q.length cQ] 61, ClkS n6 n7 u43 n9 u44 (en) s u47] [roR Ao48 1 enEpo P, nestR innerSV (NV [] u43 u44), roR AL 2 enOne4 L, roR AQ 3 enThg4 Q, nestR innerOne4 L, nestR innerThg4 Q, nestR innerSV (NV [] n8 n10), roR A_l 9 enEvent l] w41 := hW
       refine wp_region_lit <| st_p (vS Ao48 P.length co49) hA fun ac hA => st_p (vI .i64 (P.length : Int)) hA fun ac hA => st_p (vS AP P.length cP) hA fun ac hA => st_p (vI .i64 (P.length : Int)) hA fun ac hA => st_p (vB ((P.length : Int) != (P.length : Int))) hA fun ac hA => st_p (vB ((P.length : Int) != (P.length : Int))) hA fun ac hA => ?_
       rcases Bool.eq_false_or_eq_true ((P.length : Int) != (P.length : Int)) with h51 | h51
       ·
        rw [h51] at hA
        have h51 := bne_iff_ne.1 h51
        first
        | (exfalso; clear hA hW; omega)
        | (
         refine st_k hA fun ac hA => st_k hA fun ac hA => st_k hA fun ac hA => st_k hA fun ac hA => st_p (vB true) hA fun ac hA => wn <| wp_cond_true (hA.eval (by kernel_rfl)) <| wr <| st_p (vB false) hA ?_; clear hA ac; intro ac hA
         refine wn <| wp_ret <| thenR <| r1 (vB false) hA ?_
         clear hA
         exact ⟨retv (by rfl), hW.fr⟩)
       rw [h51] at hA
       have h51 := of_bne_f h51
       first
       | (exfalso; clear hA hW; omega)
       | (
        refine st_p (vI .i64 no) hA ?_; clear hA ac; intro ac hA
        refine st_s hA (Runs.callN (v := vI .i64 (no)) (fun _ => by kernel_rfl) hW (e_num (no) w41) ?_); clear hA ac hW; intro w52 hW hfw52 ac hA
        refine st_p (vI .i64 no) hA fun ac hA => st_p (vB (((no) : Int) != (no : Int))) hA fun ac hA => st_p (vB (((no) : Int) != (no : Int))) hA fun ac hA => wn <| wp_cond_split (t := ((no) : Int) != (no : Int)) (hA.eval (by kernel_rfl)) (fun h53 => ?_) (fun h53 => ?_)
        ·
         have h53 := bne_iff_ne.1 h53
         first
         | (exfalso; clear hA hW; omega)
         | (
          refine wr <| st_p (vB false) hA ?_; clear hA ac; intro ac hA
          refine wn <| wp_ret <| thenR <| r1 (vB false) hA ?_
          clear hA
          exact ⟨retv (by rfl), hW.fr⟩)
        have h53 := of_bne_f h53
        first
        | (exfalso; clear hA hW; omega)
        | (
         refine wp_skip <| thenN <| wp_seq <| wr <| st_p (vI .i64 0) hA ?_; clear hA ac; intro ac hA
         refine wn <| wp_block <| wp_loop_m (fun m_ ac_ wl_ => ∃ q : Nat, m_ = P.length - q ∧ (q ≤ P.length) ∧ Fm 107 [] [(0, vI .u64 en), (5, pA n6 0), (7, pA b17 0), (9, vS AP P.length cP), (15, vS Ao48 P.length co49), (17, vI .i64 (q : Int))] ac_ ∧ Ws w No [rowR 43 1 enEpo (vS AP P.length cP) P, Cel b17 #[vI .u64 (en), vS AL L.length cL, vS AQ Q.length cQ] 61, ClkS n6 n7 u43 n9 u44 (en) s u47] [roR Ao48 1 enEpo P, nestR innerSV (NV [] u43 u44), roR AL 2 enOne4 L, roR AQ 3 enThg4 Q, nestR innerOne4 L, nestR innerThg4 Q, nestR innerSV (NV [] n8 n10), roR A_l 9 enEvent l] wl_) _ ⟨0, rfl, by omega, hA.sub (by and_intros <;> first | kernel_rfl | trivial), (hW.pick [0, 1, 2] (by decide) rfl).pickG [0, 1, 2, 3, 4, 5, 6, 7] rfl⟩ ?_
         clear hA ac hW; rintro m_ ac w54 ⟨q, rfl, hq, hA, hW⟩
         refine wp_seq <| wr <| st_p (vI .i64 (q : Int)) hA fun ac hA => st_p (vS Ao48 P.length co49) hA fun ac hA => st_p (vI .i64 (P.length : Int)) hA fun ac hA => st_p (vB (decide ((q : Int) < (P.length : Int)))) hA fun ac hA => wn <| wp_cond_split (t := decide ((q : Int) < (P.length : Int))) (hA.eval (by kernel_rfl)) (fun h55 => ?_) (fun h55 => ?_)
         ·
          have h55 := of_decide_eq_true h55
          first
          | (exfalso; clear hA hW; omega)
          | (
           refine wp_skip <| thenN <| wp_seq <| wp_block <| wp_seq ?_
           obtain ⟨y56, hy56⟩ : ∃ y, P[q]? = some y := ⟨_, List.getElem?_eq_getElem (by omega)⟩
           obtain ⟨b57, o58, rfl, hbb57⟩ := row_some ((hW).getG 0 rfl) hy56
           obtain ⟨b59, o60, rfl, hbb59⟩ := row_some (rowR_at ((hW).get 0 rfl) elt_Epo.len) hy56
           refine q_region (by kernel_rfl) (by kernel_rfl) hW <| sq_p (vS (some ⟨b57, o58, none⟩) P.length co49) hA fun ac hA => sq_p (vI .i64 (q : Int)) hA fun ac hA => sq_q (vP (some ⟨b57, o58 + q * 1, none⟩)) hA (Rd.indexAddr (e := 43) (sz := 1) (b := b57) (off := o58) (n := P.length) (c := co49) (k := q) (by kernel_rfl) (by kernel_rfl) (by first | omega | (simp; done) | (simp; omega)) (fun _ => by kernel_rfl) (fun _ => by kernel_rfl)) fun ac hA => sq_q (vI .u64 y56) hA (Rd.loadRow (b := b57) (i := o58 + q * 1) (xs := [vI .u64 y56]) (by kernel_rfl) (fun _ hw => row_ld ((hw.1).getG 0 rfl) hy56 (Fr.refl No _) (fun h => h) 0 1 (by kernel_rfl)) (by kernel_rfl)) fun ac hA => sq_p (vS (some ⟨b59, o60, none⟩) P.length cP) hA fun ac hA => sq_p (vI .i64 (q : Int)) hA fun ac hA => sq_q (vP (some ⟨b59, o60 + q * 1, none⟩)) hA (Rd.indexAddr (e := 43) (sz := 1) (b := b59) (off := o60) (n := P.length) (c := cP) (k := q) (by kernel_rfl) (by kernel_rfl) (by first | omega | (simp; done) | (simp; omega)) (fun _ => by kernel_rfl) (fun _ => by kernel_rfl)) fun ac hA => sq_q (vI .u64 y56) hA (Rd.loadRow (b := b59) (i := o60 + q * 1) (xs := [vI .u64 y56]) (by kernel_rfl) (fun _ hw => row_ld (rowR_at ((hw.1).get 0 rfl) elt_Epo.len) hy56 (Fr.refl No _) (fun h => h) 0 1 (by kernel_rfl)) (by kernel_rfl)) fun ac hA => sq_p (vB ((y56 : Int) != (y56 : Int))) hA fun ac hA => sq_nil ?_; intro w61 hww61; have hW := hww61.1; have hfw61 := hww61.2; clear hww61
           refine thenN <| wp_cond_split (t := (y56 : Int) != (y56 : Int)) (hA.eval (by kernel_rfl)) (fun h62 => ?_) (fun h62 => ?_)
           ·
            have h62 := bne_iff_ne.1 h62
            first
            | (exfalso; clear hA hW; omega)
            | (
             refine wr <| st_p (vB false) hA ?_; clear hA ac; intro ac hA
             refine wn <| wp_ret <| blkR <| thenR <| thenR <| blkR <| thenR <| r1 (vB false) hA ?_
             clear hA
             exact ⟨retv (by rfl), hW.fr⟩)
           have h62 := of_bne_f h62
           first
           | (exfalso; clear hA hW; omega)
           | (
            refine wp_skip <| blkN <| thenN <| wp_region_lit <| st_p (vI .i64 (q : Int)) hA fun ac hA => st_q (vI .i64 ((q + 1 : Nat) : Int)) hA hW.cls (Rd.pureE (v0 := vI .i64 (IntKind.i64.wrap ((q : Int) + 1))) (fun _ => by kernel_rfl) (congrArg (vI .i64) ((w_i64 (x := (q : Int) + 1) (by omega) (by omega)).trans (by omega)))) fun ac hA => st_p (vI .i64 ((q + 1 : Nat) : Int)) hA fun ac hA => wn ?_
            exact ⟨P.length - (q + 1), by omega, q + 1, rfl, by omega, hA.sub (by and_intros <;> first | kernel_rfl | trivial), (hW.pick [0, 1, 2] (by decide) rfl).pickG [0, 1, 2, 3, 4, 5, 6, 7] rfl⟩))
         have h55 := of_decide_eq_false h55
         first
         | (exfalso; clear hA hW; omega)
         | (
          refine wp_exit <| thenX <| thenX <| blkX <| thenN <| wr <| st_p (pA n6 0) hA fun ac hA => st_q (vA #[vI .u64 (en), vS AL L.length cL, vS AQ Q.length cQ]) hA hW.cls (rl b17 0 1) fun ac hA => st_s hA (Runs.callN (v := vB true) (fun _ => by kernel_rfl) hW (e_is n6 n7 u43 n9 u44 (en) s u47 AL cL L AQ cQ Q i (99) w54 (clk_join ((hW).get 2 rfl) ((hW).getG 1 rfl) ((hW).gd _ (List.mem_of_getElem? (i := 1) rfl) _ (List.mem_of_getElem? (i := 2) rfl))) (clk_lt ((hW).lt _ (List.mem_of_getElem? (i := 2) rfl)) ((hW).glt _ (List.mem_of_getElem? (i := 1) rfl))) ((hW).getG 2 rfl) (by first | assumption | omega | (simp; omega) | simp) ((hW).getG 4 rfl) hkL ((hW).getG 3 rfl) (by first | assumption | omega | (simp; omega) | simp) ((hW).getG 5 rfl) hkQ (by first | omega | decide | assumption | exact ⟨by omega, by omega⟩) (by first | omega | decide | assumption | exact ⟨by omega, by omega⟩) (by first | omega | decide | assumption | exact ⟨by omega, by omega⟩) (by first | omega | decide | assumption | exact ⟨by omega, by omega⟩)) ?_); clear hA ac hW; intro w63 hW hfw63 ac hA
          refine st_p (vB true) hA ?_; clear hA ac; intro ac hA
          refine st_s hA (Runs.callN (v := vB true) (fun _ => by kernel_rfl) hW (e_works w63) ?_); clear hA ac hW; intro w64 hW hfw64 ac hA
          refine st_p (vB true) hA fun ac hA => st_p (vB true) hA fun ac hA => wn <| wp_ret <| r1 (vB true) hA ?_
          clear hA
          exact ⟨retv (by rfl), hW.fr⟩)))))
    rw [h21] at hA
    have h21 := of_decide_eq_false h21
    first
    | (exfalso; clear hA hW; omega)
    | (
     refine st_k hA fun ac hA => st_k hA fun ac hA => st_p (vB false) hA fun ac hA => wn <| wp_cond_false (hA.eval (by kernel_rfl)) <| wp_exit <| thenX <| thenX <| blkX <| thenN <| wp_seq ?_
     have hAl_ : allK (en) kst0 l = (s, P, no) := by rcases hP with ⟨h1_, h2_⟩ | ⟨h1_, h2_⟩; (first | (exfalso; omega) | (rw [h1_]; rw [List.take_of_length_le (by omega)] at h2_; exact h2_)); exact h2_
     refine wp_region_lit <| st_p (pA n6 0) hA fun ac hA => st_p (vS A_l l.length c_l) hA fun ac hA => st_s hA (Runs.call (fun _ => by kernel_rfl) (e_kall n6 n7 n8 n9 n10 (en) kst0 0 A_l c_l l w20 ((hW).get 2 rfl) ((hW).lt _ (List.mem_of_getElem? (i := 2) rfl)) ((hW).getG 4 rfl) ((hW).gd _ (List.mem_of_getElem? (i := 4) rfl) _ (List.mem_of_getElem? (i := 2) rfl)) ((hW).getG 5 rfl) (by first | assumption | omega | (simp; omega) | simp) ((hW).gd _ (List.mem_of_getElem? (i := 5) rfl) _ (List.mem_of_getElem? (i := 2) rfl)) (by first | omega | decide | assumption | exact ⟨by omega, by omega⟩) (fun x hx => ⟨(hel x hx).1, (hel x hx).2.1⟩) (by first | omega | decide | assumption | exact ⟨by omega, by omega⟩) .start) ?_)
     rintro _ w65 ⟨u66, u67, u68, u69, u70, u71, Ao72, co73, rfl, hw65_hE, hw65_hK, hw65_hR, hw65_hn, hcco73, hfco73, hnf_, hne_, hu_⟩; refine ⟨_, rfl, ?_⟩; have hW0 := hW; have hW := hW.upd (H' := [rowR 43 1 enEpo (vS AP P.length cP) P, Cel b17 #[vI .u64 (en), vS AL L.length cL, vS AQ Q.length cQ] 61, ClkS n6 n7 u67 n9 u68 (en) u66 u71]) 2 rfl hu_ rfl; have hW := hW0.addFromU hW 2 rfl rfl hnf_ (in_cons (in_at 4 rfl) in_nil) hne_
     have hknv74 : ∀ x_ ∈ (NV [] u67 u68), capSV x_ := hw65_hK.cap
     have hW := hW0.addFromU hW 2 rfl rfl hfco73.1 in_nil hfco73.2
     clear hW0 hu_ hnf_ hne_ hfco73 hA ac; intro ac hA
     refine st_p (vT #[vS Ao72 u69.length co73, vI .i64 u70]) hA fun ac hA => st_p (vS Ao72 u69.length co73) hA fun ac hA => st_p (vI .i64 u70) hA fun ac hA => st_p (vS Ao72 u69.length co73) hA fun ac hA => st_p (vI .i64 u70) hA fun ac hA => wn <| wp_seq <| wp_seq ?_
     have q_ := (hw65_hE.trans hAl_).symm; have e1_ : s = u66 := congrArg Prod.fst q_; have e2_ : P = u69 := congrArg (fun z_ => z_.2.1) q_; have e3_ : no = u70 := congrArg (fun z_ => z_.2.2) q_; clear q_; subst e1_ e2_ e3_
     replace hW : Ws w No [rowR 43 1 enEpo (vS AP P.length cP) P, Cel b17 #[vI .u64 (en), vS AL L.length cL, vS AQ Q.length cQ] 61, ClkS n6 n7 u67 n9 u68 (en) s u71] [roR Ao72 1 enEpo P, nestR innerSV (NV [] u67 u68), roR AL 2 enOne4 L, roR AQ 3 enThg4 Q, nestR innerOne4 L, nestR innerThg4 Q, nestR innerSV (NV [] n8 n10), roR A_l 9 enEvent l] w65 := hW
     refine wp_region_lit <| st_p (vS Ao72 P.length co73) hA fun ac hA => st_p (vI .i64 (P.length : Int)) hA fun ac hA => st_p (vS AP P.length cP) hA fun ac hA => st_p (vI .i64 (P.length : Int)) hA fun ac hA => st_p (vB ((P.length : Int) != (P.length : Int))) hA fun ac hA => st_p (vB ((P.length : Int) != (P.length : Int))) hA fun ac hA => ?_
     rcases Bool.eq_false_or_eq_true ((P.length : Int) != (P.length : Int)) with h75 | h75
     ·
      rw [h75] at hA
      have h75 := bne_iff_ne.1 h75
      first
      | (exfalso; clear hA hW; omega)
      | (
       refine st_k hA fun ac hA => st_k hA fun ac hA => st_k hA fun ac hA => st_k hA fun ac hA => st_p (vB true) hA fun ac hA => wn <| wp_cond_true (hA.eval (by kernel_rfl)) <| wr <| st_p (vB false) hA ?_; clear hA ac; intro ac hA
       refine wn <| wp_ret <| thenR <| r1 (vB false) hA ?_
       clear hA
       exact ⟨retv (by rfl), hW.fr⟩)
     rw [h75] at hA
     have h75 := of_bne_f h75
     first
     | (exfalso; clear hA hW; omega)
     | (
      refine st_p (vI .i64 no) hA ?_; clear hA ac; intro ac hA
      refine st_s hA (Runs.callN (v := vI .i64 (no)) (fun _ => by kernel_rfl) hW (e_num (no) w65) ?_); clear hA ac hW; intro w76 hW hfw76 ac hA
      refine st_p (vI .i64 no) hA fun ac hA => st_p (vB (((no) : Int) != (no : Int))) hA fun ac hA => st_p (vB (((no) : Int) != (no : Int))) hA fun ac hA => wn <| wp_cond_split (t := ((no) : Int) != (no : Int)) (hA.eval (by kernel_rfl)) (fun h77 => ?_) (fun h77 => ?_)
      ·
       have h77 := bne_iff_ne.1 h77
       first
       | (exfalso; clear hA hW; omega)
       | (
        refine wr <| st_p (vB false) hA ?_; clear hA ac; intro ac hA
        refine wn <| wp_ret <| thenR <| r1 (vB false) hA ?_
        clear hA
        exact ⟨retv (by rfl), hW.fr⟩)
      have h77 := of_bne_f h77
      first
      | (exfalso; clear hA hW; omega)
      | (
       refine wp_skip <| thenN <| wp_seq <| wr <| st_p (vI .i64 0) hA ?_; clear hA ac; intro ac hA
       refine wn <| wp_block <| wp_loop_m (fun m_ ac_ wl_ => ∃ q : Nat, m_ = P.length - q ∧ (q ≤ P.length) ∧ Fm 107 [] [(0, vI .u64 en), (5, pA n6 0), (7, pA b17 0), (9, vS AP P.length cP), (15, vS Ao72 P.length co73), (17, vI .i64 (q : Int))] ac_ ∧ Ws w No [rowR 43 1 enEpo (vS AP P.length cP) P, Cel b17 #[vI .u64 (en), vS AL L.length cL, vS AQ Q.length cQ] 61, ClkS n6 n7 u67 n9 u68 (en) s u71] [roR Ao72 1 enEpo P, nestR innerSV (NV [] u67 u68), roR AL 2 enOne4 L, roR AQ 3 enThg4 Q, nestR innerOne4 L, nestR innerThg4 Q, nestR innerSV (NV [] n8 n10), roR A_l 9 enEvent l] wl_) _ ⟨0, rfl, by omega, hA.sub (by and_intros <;> first | kernel_rfl | trivial), (hW.pick [0, 1, 2] (by decide) rfl).pickG [0, 1, 2, 3, 4, 5, 6, 7] rfl⟩ ?_
       clear hA ac hW; rintro m_ ac w78 ⟨q, rfl, hq, hA, hW⟩
       refine wp_seq <| wr <| st_p (vI .i64 (q : Int)) hA fun ac hA => st_p (vS Ao72 P.length co73) hA fun ac hA => st_p (vI .i64 (P.length : Int)) hA fun ac hA => st_p (vB (decide ((q : Int) < (P.length : Int)))) hA fun ac hA => wn <| wp_cond_split (t := decide ((q : Int) < (P.length : Int))) (hA.eval (by kernel_rfl)) (fun h79 => ?_) (fun h79 => ?_)
       ·
        have h79 := of_decide_eq_true h79
        first
        | (exfalso; clear hA hW; omega)
        | (
         refine wp_skip <| thenN <| wp_seq <| wp_block <| wp_seq ?_
         obtain ⟨y80, hy80⟩ : ∃ y, P[q]? = some y := ⟨_, List.getElem?_eq_getElem (by omega)⟩
         obtain ⟨b81, o82, rfl, hbb81⟩ := row_some ((hW).getG 0 rfl) hy80
         obtain ⟨b83, o84, rfl, hbb83⟩ := row_some (rowR_at ((hW).get 0 rfl) elt_Epo.len) hy80
         refine q_region (by kernel_rfl) (by kernel_rfl) hW <| sq_p (vS (some ⟨b81, o82, none⟩) P.length co73) hA fun ac hA => sq_p (vI .i64 (q : Int)) hA fun ac hA => sq_q (vP (some ⟨b81, o82 + q * 1, none⟩)) hA (Rd.indexAddr (e := 43) (sz := 1) (b := b81) (off := o82) (n := P.length) (c := co73) (k := q) (by kernel_rfl) (by kernel_rfl) (by first | omega | (simp; done) | (simp; omega)) (fun _ => by kernel_rfl) (fun _ => by kernel_rfl)) fun ac hA => sq_q (vI .u64 y80) hA (Rd.loadRow (b := b81) (i := o82 + q * 1) (xs := [vI .u64 y80]) (by kernel_rfl) (fun _ hw => row_ld ((hw.1).getG 0 rfl) hy80 (Fr.refl No _) (fun h => h) 0 1 (by kernel_rfl)) (by kernel_rfl)) fun ac hA => sq_p (vS (some ⟨b83, o84, none⟩) P.length cP) hA fun ac hA => sq_p (vI .i64 (q : Int)) hA fun ac hA => sq_q (vP (some ⟨b83, o84 + q * 1, none⟩)) hA (Rd.indexAddr (e := 43) (sz := 1) (b := b83) (off := o84) (n := P.length) (c := cP) (k := q) (by kernel_rfl) (by kernel_rfl) (by first | omega | (simp; done) | (simp; omega)) (fun _ => by kernel_rfl) (fun _ => by kernel_rfl)) fun ac hA => sq_q (vI .u64 y80) hA (Rd.loadRow (b := b83) (i := o84 + q * 1) (xs := [vI .u64 y80]) (by kernel_rfl) (fun _ hw => row_ld (rowR_at ((hw.1).get 0 rfl) elt_Epo.len) hy80 (Fr.refl No _) (fun h => h) 0 1 (by kernel_rfl)) (by kernel_rfl)) fun ac hA => sq_p (vB ((y80 : Int) != (y80 : Int))) hA fun ac hA => sq_nil ?_; intro w85 hww85; have hW := hww85.1; have hfw85 := hww85.2; clear hww85
         refine thenN <| wp_cond_split (t := (y80 : Int) != (y80 : Int)) (hA.eval (by kernel_rfl)) (fun h86 => ?_) (fun h86 => ?_)
         ·
          have h86 := bne_iff_ne.1 h86
          first
          | (exfalso; clear hA hW; omega)
          | (
           refine wr <| st_p (vB false) hA ?_; clear hA ac; intro ac hA
           refine wn <| wp_ret <| blkR <| thenR <| thenR <| blkR <| thenR <| r1 (vB false) hA ?_
           clear hA
           exact ⟨retv (by rfl), hW.fr⟩)
         have h86 := of_bne_f h86
         first
         | (exfalso; clear hA hW; omega)
         | (
          refine wp_skip <| blkN <| thenN <| wp_region_lit <| st_p (vI .i64 (q : Int)) hA fun ac hA => st_q (vI .i64 ((q + 1 : Nat) : Int)) hA hW.cls (Rd.pureE (v0 := vI .i64 (IntKind.i64.wrap ((q : Int) + 1))) (fun _ => by kernel_rfl) (congrArg (vI .i64) ((w_i64 (x := (q : Int) + 1) (by omega) (by omega)).trans (by omega)))) fun ac hA => st_p (vI .i64 ((q + 1 : Nat) : Int)) hA fun ac hA => wn ?_
          exact ⟨P.length - (q + 1), by omega, q + 1, rfl, by omega, hA.sub (by and_intros <;> first | kernel_rfl | trivial), (hW.pick [0, 1, 2] (by decide) rfl).pickG [0, 1, 2, 3, 4, 5, 6, 7] rfl⟩))
       have h79 := of_decide_eq_false h79
       first
       | (exfalso; clear hA hW; omega)
       | (
        refine wp_exit <| thenX <| thenX <| blkX <| thenN <| wr <| st_p (pA n6 0) hA fun ac hA => st_q (vA #[vI .u64 (en), vS AL L.length cL, vS AQ Q.length cQ]) hA hW.cls (rl b17 0 1) fun ac hA => st_s hA (Runs.callN (v := vB true) (fun _ => by kernel_rfl) hW (e_is n6 n7 u67 n9 u68 (en) s u71 AL cL L AQ cQ Q i (99) w78 (clk_join ((hW).get 2 rfl) ((hW).getG 1 rfl) ((hW).gd _ (List.mem_of_getElem? (i := 1) rfl) _ (List.mem_of_getElem? (i := 2) rfl))) (clk_lt ((hW).lt _ (List.mem_of_getElem? (i := 2) rfl)) ((hW).glt _ (List.mem_of_getElem? (i := 1) rfl))) ((hW).getG 2 rfl) (by first | assumption | omega | (simp; omega) | simp) ((hW).getG 4 rfl) hkL ((hW).getG 3 rfl) (by first | assumption | omega | (simp; omega) | simp) ((hW).getG 5 rfl) hkQ (by first | omega | decide | assumption | exact ⟨by omega, by omega⟩) (by first | omega | decide | assumption | exact ⟨by omega, by omega⟩) (by first | omega | decide | assumption | exact ⟨by omega, by omega⟩) (by first | omega | decide | assumption | exact ⟨by omega, by omega⟩)) ?_); clear hA ac hW; intro w87 hW hfw87 ac hA
        refine st_p (vB true) hA ?_; clear hA ac; intro ac hA
        refine st_s hA (Runs.callN (v := vB true) (fun _ => by kernel_rfl) hW (e_works w87) ?_); clear hA ac hW; intro w88 hW hfw88 ac hA
        refine st_p (vB true) hA fun ac hA => st_p (vB true) hA fun ac hA => wn <| wp_ret <| r1 (vB true) hA ?_
        clear hA
        exact ⟨retv (by rfl), hW.fr⟩)))))
  have h4 := of_decide_eq_false h4
  first
  | (exfalso; clear hA hW; omega)
  | (
   have hfl_ := few_len (show fewOk l 50 = true from h2)
   refine wp_region_lit <| st_p (vI .u64 en) hA ?_; clear hA ac; intro ac hA
   refine st_s hA (Runs.callN (v := vT #[vP none, vI .i64 2]) (fun _ => by kernel_rfl) hW (e_knewB (en) w1 (by first | omega | decide | assumption | exact ⟨by omega, by omega⟩) (by first | omega | decide | assumption | exact ⟨by omega, by omega⟩)) ?_); clear hA ac hW; intro w89 hW hfw89 ac hA
   refine st_p (vT #[vP none, vI .i64 2]) hA fun ac hA => st_p (vP none) hA fun ac hA => st_p (vI .i64 2) hA fun ac hA => st_p (vP none) hA fun ac hA => st_p (vI .i64 2) hA fun ac hA => wn <| wr <| st_p (vI .u64 en) hA ?_; clear hA ac; intro ac hA
   refine st_s hA (Runs.callN (v := vT #[vA #[vI .u64 0, vS none 0 0, vS none 0 0], vI .i64 2]) (fun _ => by kernel_rfl) hW (e_dnewB (en) w89 (by first | omega | decide | assumption | exact ⟨by omega, by omega⟩) (by first | omega | decide | assumption | exact ⟨by omega, by omega⟩)) ?_); clear hA ac hW; intro w90 hW hfw90 ac hA
   refine st_p (vT #[vA #[vI .u64 0, vS none 0 0, vS none 0 0], vI .i64 2]) hA fun ac hA => st_p (vA #[vI .u64 0, vS none 0 0, vS none 0 0]) hA fun ac hA => st_p (vI .i64 2) hA fun ac hA => st_s hA (Runs.cells (fun b => pA b 0) #[vI .u64 0, vS none 0 0, vS none 0 0] 61 (fun _ => by kernel_rfl) hW ?_); clear hA ac hW; intro b91 w92 hW hb91 hfw92 ac hA
   refine st_s hA (Runs.store (v := vA #[vI .u64 0, vS none 0 0, vS none 0 0]) (b := b91) (j := 0) (n := 3) (cs' := #[vI .u64 0, vS none 0 0, vS none 0 0]) (H' := [Cel b91 #[vI .u64 0, vS none 0 0, vS none 0 0] 61]) (by kernel_rfl) (by kernel_rfl) (by kernel_rfl) (by kernel_rfl) (by kernel_rfl) hW 0 (by rfl) (Nat.le_of_ble_eq_true (by kernel_rfl)) (by kernel_rfl) (by rfl) ?_); clear hA ac hW; intro w93 hW ac hA
   refine st_p (vI .i64 2) hA ?_; clear hA ac; intro ac hA
   refine wn <| wp_seq <| wr <| st_p (vI .i64 2) hA fun ac hA => st_p (vB true) hA fun ac hA => wn <| wp_cond_true (hA.eval (by kernel_rfl)) <| wr <| st_p (vI .i64 2) hA ?_; clear hA ac; intro ac hA
   refine st_s hA (Runs.callN (v := vI .i64 (2)) (fun _ => by kernel_rfl) hW (e_num (2) w93) ?_); clear hA ac hW; intro w94 hW hfw94 ac hA
   refine st_p (vI .i64 2) hA fun ac hA => st_p (vB (((2) : Int) == (2 : Int))) hA fun ac hA => st_p (vB (((2) : Int) == (2 : Int))) hA fun ac hA => ?_
   rcases Bool.eq_false_or_eq_true (((2) : Int) == (2 : Int)) with h95 | h95
   ·
    rw [h95] at hA
    have h95 := eq_of_beq h95
    first
    | (exfalso; clear hA hW; omega)
    | (
     refine st_s hA (Runs.callN (v := vB true) (fun _ => by kernel_rfl) hW (e_works w94) ?_); clear hA ac hW; intro w96 hW hfw96 ac hA
     refine st_p (vB true) hA fun ac hA => st_p (vB true) hA fun ac hA => wn <| wp_ret <| thenR <| r1 (vB true) hA ?_
     clear hA
     exact ⟨retv (by rfl), hW.fr⟩)
   rw [h95] at hA
   have h95 := ne_of_beq_false h95
   first
   | (exfalso; clear hA hW; omega)
   | (
    refine st_k hA fun ac hA => st_p (vB false) hA fun ac hA => st_p (vB false) hA fun ac hA => wn <| wp_ret <| thenR <| r1 (vB false) hA ?_
    clear hA
    exact ⟨retv (by rfl), hW.fr⟩)))

theorem clocksAll_walk (en : Int) (A : Option Addr) (len cap : Nat) (l : List Event) (w : World) (he : (Lit.int .u64 en).wf = true) (hl : l.length = len) (hc : len ≤ cap) (hm : cap ≤ maxLen) (hw : ∀ x ∈ l, wfEvent x) (hr : RowAt w A 9 enEvent l) :
    Calls Tryz.prog 5 #[.int .u64 en, .slice A len cap] w fun e w' => e = .returned (.bool true) ∧ Fr No w w' := by
  subst hl
  refine e_clocksAll en A cap l w hr hc (by simp [Lit.wf, IntKind.min, IntKind.max] at he; simp only [IntKind.bits, IntKind.signed] at he; simp at he; omega) (Nat.le_trans (Nat.le_trans hc hm) (by decide)) (fun x hx => wf_event (hw x hx))

end Go.Proofs.YtjegpelofdopmaaGreatDoor.L
