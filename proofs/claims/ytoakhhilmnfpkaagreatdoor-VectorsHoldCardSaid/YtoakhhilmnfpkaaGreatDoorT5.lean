/- Contracts, walked by program over the engine's laws. -/
import Derived.Test.YtoakhhilmnfpkaaGreatDoorProg
import Derived.Test.YtoakhhilmnfpkaaGreatDoorT4
namespace Go.Proofs.YtoakhhilmnfpkaaGreatDoor.L
open Go.RowKit
open Go.Value renaming int → vI, slice → vS, bool → vB, pointer → vP, func → vF, agg → vA, map → vM, tuple → vT

set_option maxHeartbeats 4000000 in
set_option maxRecDepth 100000 in
theorem e_eright (x : Event) (w : World) (hx : 0 ≤ x.addr ∧ x.addr ≤ 4294967295) : Calls Tryz.prog 126 #[x.v] w (fun e w' => e = .returned (vB (evOk x)) ∧ Fr No w w') := by
 have _hu := hx; clear _hu
 refine enter_E 80 Tryz.func126 rfl rfl (by kernel_rfl) (L := [(0, x.v)]) (by kernel_rfl) ?_
 intro ac hA
 have hW := Ws.start w No
 refine wr <| st_s hA (Runs.cells (fun b => pA b 0) #[vI .i64 x.g, vI .i64 x.kind, vI .i64 x.site.f, vI .i64 x.site.pc, vI .u32 x.addr, vI .i64 x.child, vI .i64 x.obj, vI .i64 x.n, vI .i64 x.trap] 43 (fun _ => by kernel_rfl) hW ?_); clear hA ac hW; intro b1 w2 hW hb1 hfw2 ac hA
 refine st_p (vB false) hA ?_; clear hA ac; intro ac hA
 refine wn <| wp_seq ?_
 rcases Bool.eq_false_or_eq_true (decide (1 ≤ x.kind ∧ x.kind ≤ 14)) with h3 | h3
 ·
  have h3 := of_decide_eq_true h3
  refine wp_region_lit <| st_p (pA b1 1) hA fun ac hA => st_q (vI .i64 x.kind) hA hW.cls (rl b1 1 0) fun ac hA => st_s hA (Runs.call (fun _ => by kernel_rfl) (e_enamed (x.kind) w2) ?_)
  rintro _ w4 ⟨n5, n6, n7, n8, n9, n10, n11, n12, rfl, hu_⟩; refine ⟨_, rfl, ?_⟩; replace hW := hW.made hu_; clear hA ac; intro ac hA
  rw [named_yes (by omega)] at hA
  refine st_p (vT #[namedS n5 n6 n7 n8 n9 n10 n11 n12 x.kind, vB true]) hA fun ac hA => st_p (namedS n5 n6 n7 n8 n9 n10 n11 n12 x.kind) hA fun ac hA => st_p (vB true) hA fun ac hA => st_p (namedS n5 n6 n7 n8 n9 n10 n11 n12 x.kind) hA fun ac hA => st_p (vB true) hA fun ac hA => wn <| wp_seq <| wr <| st_p (vB true) hA fun ac hA => st_p (vB false) hA fun ac hA => st_p (vB false) hA fun ac hA => st_p (pA b1 0) hA fun ac hA => st_q (vI .i64 x.g) hA hW.cls (rl b1 0 1) fun ac hA => st_p (vB (decide ((x.g : Int) < (0 : Int)))) hA fun ac hA => st_p (vB (decide ((x.g : Int) < (0 : Int)))) hA fun ac hA => st_p (vB (decide ((x.g : Int) < (0 : Int)))) hA fun ac hA => ?_
  rcases Bool.eq_false_or_eq_true (decide ((x.g : Int) < (0 : Int))) with h13 | h13
  ·
   rw [h13] at hA
   have h13 := of_decide_eq_true h13
   refine st_k hA fun ac hA => st_k hA fun ac hA => st_k hA fun ac hA => st_p (vB true) hA fun ac hA => st_p (vB true) hA fun ac hA => st_k hA fun ac hA => st_k hA fun ac hA => st_k hA fun ac hA => st_k hA fun ac hA => st_p (vB true) hA fun ac hA => wn <| wp_cond_true (hA.eval (by kernel_rfl)) <| wr <| st_p (vB false) hA ?_; clear hA ac; intro ac hA
   refine wn <| wp_ret <| thenR <| r1 (vB false) hA ?_
   clear hA
   exact ⟨retv (congrArg vB (decide_eq_false (by unfold EvOk; omega)).symm), hW.fr⟩
  rw [h13] at hA
  have h13 := of_decide_eq_false h13
  refine st_p (pA b1 0) hA fun ac hA => st_q (vI .i64 x.g) hA hW.cls (rl b1 0 1) fun ac hA => st_p (vB (decide ((x.g : Int) > (65535 : Int)))) hA fun ac hA => st_p (vB (decide ((x.g : Int) > (65535 : Int)))) hA fun ac hA => st_p (vB (decide ((x.g : Int) > (65535 : Int)))) hA fun ac hA => ?_
  rcases Bool.eq_false_or_eq_true (decide ((x.g : Int) > (65535 : Int))) with h14 | h14
  ·
   rw [h14] at hA
   have h14 := of_decide_eq_true h14
   refine st_k hA fun ac hA => st_k hA fun ac hA => st_k hA fun ac hA => st_k hA fun ac hA => st_p (vB true) hA fun ac hA => wn <| wp_cond_true (hA.eval (by kernel_rfl)) <| wr <| st_p (vB false) hA ?_; clear hA ac; intro ac hA
   refine wn <| wp_ret <| thenR <| r1 (vB false) hA ?_
   clear hA
   exact ⟨retv (congrArg vB (decide_eq_false (by unfold EvOk; omega)).symm), hW.fr⟩
  rw [h14] at hA
  have h14 := of_decide_eq_false h14
  refine st_p (pA b1 2) hA fun ac hA => st_q (vA #[vI .i64 x.site.f, vI .i64 x.site.pc]) hA hW.cls (rl b1 2 1) fun ac hA => st_s hA (Runs.callN (v := vI .i64 (argErr (Site.ok x.site))) (fun _ => by kernel_rfl) hW (check_any x.site w4) ?_); clear hA ac hW; intro w15 hW hfw15 ac hA
  refine st_p (vB ((argErr (Site.ok x.site) : Int) != (0 : Int))) hA fun ac hA => st_p (vB ((argErr (Site.ok x.site) : Int) != (0 : Int))) hA fun ac hA => wn <| wp_cond_split (t := (argErr (Site.ok x.site) : Int) != (0 : Int)) (hA.eval (by kernel_rfl)) (fun h16 => ?_) (fun h16 => ?_)
  ·
   have h16 := bne_iff_ne.1 h16
   refine wr <| st_p (vB false) hA ?_; clear hA ac; intro ac hA
   refine wn <| wp_ret <| thenR <| r1 (vB false) hA ?_
   clear hA
   exact ⟨retv (congrArg vB (decide_eq_false (by unfold EvOk; omega)).symm), hW.fr⟩
  have h16 := of_bne_f h16
  refine wp_skip <| thenN <| wr <| st_p (pA b1 0) hA fun ac hA => st_q (vI .i64 x.g) hA hW.cls (rl b1 0 1) fun ac hA => st_p (pA b1 1) hA fun ac hA => st_q (vI .i64 x.kind) hA hW.cls (rl b1 1 1) fun ac hA => st_p (pA b1 2) hA fun ac hA => st_q (vA #[vI .i64 x.site.f, vI .i64 x.site.pc]) hA hW.cls (rl b1 2 1) fun ac hA => st_p (vA #[vI .i64 x.g, vI .i64 x.kind, vI .i64 x.site.f, vI .i64 x.site.pc, vI .u32 0, vI .i64 0, vI .i64 0, vI .i64 0, vI .i64 0]) hA fun ac hA => st_s hA (Runs.cells (fun b => pA b 0) #[vI .i64 0, vI .i64 0, vI .i64 0, vI .i64 0, vI .u32 0, vI .i64 0, vI .i64 0, vI .i64 0, vI .i64 0] 43 (fun _ => by kernel_rfl) hW ?_); clear hA ac hW; intro b17 w18 hW hb17 hfw18 ac hA
  refine st_s hA (Runs.store (v := vA #[vI .i64 x.g, vI .i64 x.kind, vI .i64 x.site.f, vI .i64 x.site.pc, vI .u32 0, vI .i64 0, vI .i64 0, vI .i64 0, vI .i64 0]) (b := b17) (j := 0) (n := 9) (cs' := #[vI .i64 x.g, vI .i64 x.kind, vI .i64 x.site.f, vI .i64 x.site.pc, vI .u32 0, vI .i64 0, vI .i64 0, vI .i64 0, vI .i64 0]) (H' := [Cel b17 #[vI .i64 x.g, vI .i64 x.kind, vI .i64 x.site.f, vI .i64 x.site.pc, vI .u32 0, vI .i64 0, vI .i64 0, vI .i64 0, vI .i64 0] 43, PartsR n5 n6 n7 n8 n9 n10 n11 n12, Cel b1 #[vI .i64 x.g, vI .i64 x.kind, vI .i64 x.site.f, vI .i64 x.site.pc, vI .u32 x.addr, vI .i64 x.child, vI .i64 x.obj, vI .i64 x.n, vI .i64 x.trap] 43]) (by kernel_rfl) (by kernel_rfl) (by kernel_rfl) (by kernel_rfl) (by kernel_rfl) hW 0 (by rfl) (Nat.le_of_ble_eq_true (by kernel_rfl)) (by kernel_rfl) (by rfl) ?_); clear hA ac hW; intro w19 hW ac hA
  refine wn <| wp_seq <| wp_seq ?_
  rcases Bool.eq_false_or_eq_true (decide ((5 ≤ x.kind ∧ x.kind ≤ 10) ∨ x.kind = 12)) with h20 | h20
  ·
   have h20 := of_decide_eq_true h20
   rw [named_o (by omega)] at hA
   have hW : Ws w No [PcObj n5, PcAddr n6, PcAddr n7, PcChild n8, PcObjCount n9, PcTrap n10, PcNo n11, PcNo n12, Cel b17 #[vI .i64 x.g, vI .i64 x.kind, vI .i64 x.site.f, vI .i64 x.site.pc, vI .u32 0, vI .i64 0, vI .i64 0, vI .i64 0, vI .i64 0] 43, Cel b1 #[vI .i64 x.g, vI .i64 x.kind, vI .i64 x.site.f, vI .i64 x.site.pc, vI .u32 x.addr, vI .i64 x.child, vI .i64 x.obj, vI .i64 x.n, vI .i64 x.trap] 43] [] w19 := Ws.unpack (hW.pick [1, 0, 2] (by decide) rfl)
   have hW : Ws w No [PcObj n5, Cel b17 #[vI .i64 x.g, vI .i64 x.kind, vI .i64 x.site.f, vI .i64 x.site.pc, vI .u32 0, vI .i64 0, vI .i64 0, vI .i64 0, vI .i64 0] 43, Cel b1 #[vI .i64 x.g, vI .i64 x.kind, vI .i64 x.site.f, vI .i64 x.site.pc, vI .u32 x.addr, vI .i64 x.child, vI .i64 x.obj, vI .i64 x.n, vI .i64 x.trap] 43] [] w19 := hW.pick [0, 8, 9] (by decide) rfl
   refine wp_region_lit <| st_p (vS (some ⟨n5, 0, none⟩) 1 1) hA fun ac hA => st_p (vI .i64 1) hA fun ac hA => st_p (vI .i64 0) hA fun ac hA => wn <| wp_block <| wp_loop_rounds 3 ?_
   rw [rounds_succ]
   refine wr <| st_p (vB true) hA ?_; clear hA ac; intro ac hA
   refine wn <| wp_seq <| wp_cond_true (hA.eval (by kernel_rfl)) <| wp_skip <| thenN <| wp_seq <| wp_block <| wr <| st_p (pA n5 0) hA fun ac hA => st_q (vA #[vI .i64 0, vI .i64 63, vI .i64 1, vF (.func 168) #[] #[], vF (.func 169) #[] #[], vF (.func 170) #[] #[]]) hA hW.cls (rl n5 0 0) fun ac hA => st_s hA (Runs.cells (fun b => pA b 0) #[vI .i64 0, vI .i64 0, vI .i64 0, Value.nilFunc, Value.nilFunc, Value.nilFunc] 267 (fun _ => by kernel_rfl) hW ?_); clear hA ac hW; intro b21 w22 hW hb21 hfw22 ac hA
   refine st_s hA (Runs.store (v := vA #[vI .i64 0, vI .i64 63, vI .i64 1, vF (.func 168) #[] #[], vF (.func 169) #[] #[], vF (.func 170) #[] #[]]) (b := b21) (j := 0) (n := 6) (cs' := #[vI .i64 0, vI .i64 63, vI .i64 1, vF (.func 168) #[] #[], vF (.func 169) #[] #[], vF (.func 170) #[] #[]]) (H' := [Cel b21 #[vI .i64 0, vI .i64 63, vI .i64 1, vF (.func 168) #[] #[], vF (.func 169) #[] #[], vF (.func 170) #[] #[]] 267, PcObj n5, Cel b17 #[vI .i64 x.g, vI .i64 x.kind, vI .i64 x.site.f, vI .i64 x.site.pc, vI .u32 0, vI .i64 0, vI .i64 0, vI .i64 0, vI .i64 0] 43, Cel b1 #[vI .i64 x.g, vI .i64 x.kind, vI .i64 x.site.f, vI .i64 x.site.pc, vI .u32 x.addr, vI .i64 x.child, vI .i64 x.obj, vI .i64 x.n, vI .i64 x.trap] 43]) (by kernel_rfl) (by kernel_rfl) (by kernel_rfl) (by kernel_rfl) (by kernel_rfl) hW 0 (by rfl) (Nat.le_of_ble_eq_true (by kernel_rfl)) (by kernel_rfl) (by rfl) ?_); clear hA ac hW; intro w23 hW ac hA
   refine wn <| wr <| st_p (pA b21 3) hA fun ac hA => st_q (vF (.func 168) #[] #[]) hA hW.cls (rl b21 3 0) fun ac hA => st_q (vA #[vI .i64 x.g, vI .i64 x.kind, vI .i64 x.site.f, vI .i64 x.site.pc, vI .u32 x.addr, vI .i64 x.child, vI .i64 x.obj, vI .i64 x.n, vI .i64 x.trap]) hA hW.cls (rl b1 0 3) fun ac hA => st_s hA (Runs.callN (v := vI .i64 x.obj) (fun _ => by kernel_rfl) hW (e_pobj1 x w23) ?_); clear hA ac hW; intro w24 hW hfw24 ac hA
   refine st_p (vI .i64 x.obj) hA ?_; clear hA ac; intro ac hA
   refine wn <| wp_seq <| wr <| st_p (vI .i64 x.obj) hA fun ac hA => st_p (pA b21 0) hA fun ac hA => st_q (vI .i64 0) hA hW.cls (rl b21 0 0) fun ac hA => st_p (vB (decide ((x.obj : Int) < (0 : Int)))) hA fun ac hA => st_p (vB (decide ((x.obj : Int) < (0 : Int)))) hA fun ac hA => ?_
   rcases Bool.eq_false_or_eq_true (decide ((x.obj : Int) < (0 : Int))) with h25 | h25
   ·
    rw [h25] at hA
    have h25 := of_decide_eq_true h25
    refine st_k hA fun ac hA => st_k hA fun ac hA => st_k hA fun ac hA => st_k hA fun ac hA => st_p (vB true) hA fun ac hA => wn <| wp_cond_true (hA.eval (by kernel_rfl)) <| wr <| st_p (vB false) hA ?_; clear hA ac; intro ac hA
    refine wn <| wp_ret <| thenR <| blkR <| thenR <| thenR <| blkR <| thenR <| r1 (vB false) hA ?_
    clear hA
    exact ⟨retv (congrArg vB (decide_eq_false (by unfold EvOk; omega)).symm), hW.fr⟩
   rw [h25] at hA
   have h25 := of_decide_eq_false h25
   refine st_p (vI .i64 x.obj) hA fun ac hA => st_p (pA b21 1) hA fun ac hA => st_q (vI .i64 63) hA hW.cls (rl b21 1 0) fun ac hA => st_p (vB (decide ((x.obj : Int) > (63 : Int)))) hA fun ac hA => st_p (vB (decide ((x.obj : Int) > (63 : Int)))) hA fun ac hA => wn <| wp_cond_split (t := decide ((x.obj : Int) > (63 : Int))) (hA.eval (by kernel_rfl)) (fun h26 => ?_) (fun h26 => ?_)
   ·
    have h26 := of_decide_eq_true h26
    refine wr <| st_p (vB false) hA ?_; clear hA ac; intro ac hA
    refine wn <| wp_ret <| thenR <| blkR <| thenR <| thenR <| blkR <| thenR <| r1 (vB false) hA ?_
    clear hA
    exact ⟨retv (congrArg vB (decide_eq_false (by unfold EvOk; omega)).symm), hW.fr⟩
   have h26 := of_decide_eq_false h26
   refine wp_skip <| thenN ?_
   have hW : Ws w No [EvR b17 (⟨x.g, x.kind, x.site, 0, 0, 0, 0, 0⟩ : Event), Cel b21 #[vI .i64 0, vI .i64 63, vI .i64 1, vF (.func 168) #[] #[], vF (.func 169) #[] #[], vF (.func 170) #[] #[]] 267, PcObj n5, Cel b1 #[vI .i64 x.g, vI .i64 x.kind, vI .i64 x.site.f, vI .i64 x.site.pc, vI .u32 x.addr, vI .i64 x.child, vI .i64 x.obj, vI .i64 x.n, vI .i64 x.trap] 43] [] w24 := Ws.pack (hW.pick [2, 0, 1, 3] (by decide) rfl)
   refine wp_region_lit <| st_p (pA b21 4) hA fun ac hA => st_q (vF (.func 169) #[] #[]) hA hW.cls (rl b21 4 1) fun ac hA => st_p (vI .i64 x.obj) hA fun ac hA => st_s hA (Runs.call (fun _ => by kernel_rfl) (e_pobj2 b17 (⟨x.g, x.kind, x.site, 0, 0, 0, 0, 0⟩ : Event) (x.obj) w24 ((hW).get 0 rfl) ((hW).lt _ (List.mem_of_getElem? (i := 0) rfl)) (by first | omega | assumption)) ?_)
   rintro _ w27 ⟨rfl, hu_⟩; refine ⟨_, rfl, ?_⟩; replace hW := hW.upd (H' := [EvR b17 (⟨(⟨x.g, x.kind, x.site, 0, 0, 0, 0, 0⟩ : Event).g, (⟨x.g, x.kind, x.site, 0, 0, 0, 0, 0⟩ : Event).kind, (⟨x.g, x.kind, x.site, 0, 0, 0, 0, 0⟩ : Event).site, (⟨x.g, x.kind, x.site, 0, 0, 0, 0, 0⟩ : Event).addr, (⟨x.g, x.kind, x.site, 0, 0, 0, 0, 0⟩ : Event).child, (x.obj), (⟨x.g, x.kind, x.site, 0, 0, 0, 0, 0⟩ : Event).n, (⟨x.g, x.kind, x.site, 0, 0, 0, 0, 0⟩ : Event).trap⟩ : Event), Cel b21 #[vI .i64 0, vI .i64 63, vI .i64 1, vF (.func 168) #[] #[], vF (.func 169) #[] #[], vF (.func 170) #[] #[]] 267, PcObj n5, Cel b1 #[vI .i64 x.g, vI .i64 x.kind, vI .i64 x.site.f, vI .i64 x.site.pc, vI .u32 x.addr, vI .i64 x.child, vI .i64 x.obj, vI .i64 x.n, vI .i64 x.trap] 43]) 0 rfl hu_ rfl; clear hA ac; intro ac hA
   refine wpList_nil <| blkN <| thenN <| wp_region_lit <| st_q (vI .i64 1) hA hW.cls (Rd.pureE (v0 := vI .i64 (IntKind.i64.wrap ((0 : Int) + 1))) (fun _ => by kernel_rfl) (congrArg (vI .i64) ((w_i64 (x := (0 : Int) + 1) (by omega) (by omega)).trans (by omega)))) fun ac hA => st_p (vI .i64 1) hA fun ac hA => wn ?_
   rw [rounds_succ]
   refine wr <| st_p (vB false) hA ?_; clear hA ac; intro ac hA
   refine wn <| wp_seq <| wp_cond_false (hA.eval (by kernel_rfl)) <| wp_exit <| thenX <| thenX <| blkX <| thenN <| wp_seq ?_
   have hW : Ws w No [Cel b17 #[vI .i64 x.g, vI .i64 x.kind, vI .i64 x.site.f, vI .i64 x.site.pc, vI .u32 0, vI .i64 0, vI .i64 (x.obj), vI .i64 0, vI .i64 0] 43, Cel b21 #[vI .i64 0, vI .i64 63, vI .i64 1, vF (.func 168) #[] #[], vF (.func 169) #[] #[], vF (.func 170) #[] #[]] 267, PcObj n5, Cel b1 #[vI .i64 x.g, vI .i64 x.kind, vI .i64 x.site.f, vI .i64 x.site.pc, vI .u32 x.addr, vI .i64 x.child, vI .i64 x.obj, vI .i64 x.n, vI .i64 x.trap] 43] [] w27 := Ws.unpack (hW.pick [0, 1, 2, 3] (by decide) rfl)
   refine wp_region_lit <| st_q (vA #[vI .i64 x.g, vI .i64 x.kind, vI .i64 x.site.f, vI .i64 x.site.pc, vI .u32 0, vI .i64 0, vI .i64 (x.obj), vI .i64 0, vI .i64 0]) hA hW.cls (rl b17 0 0) fun ac hA => st_q (vA #[vI .i64 x.g, vI .i64 x.kind, vI .i64 x.site.f, vI .i64 x.site.pc, vI .u32 x.addr, vI .i64 x.child, vI .i64 x.obj, vI .i64 x.n, vI .i64 x.trap]) hA hW.cls (rl b1 0 3) fun ac hA => st_q (vB (decide ((⟨x.g, x.kind, x.site, 0, 0, (x.obj), 0, 0⟩ : Event) = x))) hA hW.cls (Rd.eqS (u := (⟨x.g, x.kind, x.site, 0, 0, (x.obj), 0, 0⟩ : Event).v) (v := x.v) (by kernel_rfl) (by kernel_rfl) rfl rfl (by kernel_rfl) (fun w => eq_Event w (⟨x.g, x.kind, x.site, 0, 0, (x.obj), 0, 0⟩ : Event) x)) fun ac hA => st_p (vB (decide ((⟨x.g, x.kind, x.site, 0, 0, (x.obj), 0, 0⟩ : Event) = x))) hA fun ac hA => ?_
   rcases Bool.eq_false_or_eq_true (decide ((⟨x.g, x.kind, x.site, 0, 0, (x.obj), 0, 0⟩ : Event) = x)) with h28 | h28
   ·
    rw [h28] at hA
    have h28 := of_decide_eq_true h28
    have h28e := (Event.eqi _ _).1 h28
    refine st_p (pA b1 1) hA fun ac hA => st_q (vI .i64 x.kind) hA hW.cls (rl b1 1 3) fun ac hA => st_p (vB ((x.kind : Int) != (4 : Int))) hA fun ac hA => st_p (vB ((x.kind : Int) != (4 : Int))) hA fun ac hA => ?_
    rcases Bool.eq_false_or_eq_true ((x.kind : Int) != (4 : Int)) with h29 | h29
    ·
     rw [h29] at hA
     have h29 := bne_iff_ne.1 h29
     refine st_k hA fun ac hA => st_k hA fun ac hA => st_k hA fun ac hA => st_k hA fun ac hA => st_k hA fun ac hA => st_p (vB true) hA fun ac hA => st_p (vB true) hA fun ac hA => st_p (vB true) hA fun ac hA => wn <| wp_ret <| r1 (vB true) hA ?_
     clear hA
     dsimp only at h28e
     exact ⟨retv (congrArg vB (decide_eq_true (by unfold EvOk; omega)).symm), hW.fr⟩
    rw [h29] at hA
    have h29 := of_bne_f h29
    exfalso; clear hA hW; omega
   rw [h28] at hA
   have h28 := of_decide_eq_false h28
   have h28e := fun e => h28 ((Event.eqi _ _).2 e)
   refine st_k hA fun ac hA => st_k hA fun ac hA => st_k hA fun ac hA => st_k hA fun ac hA => st_k hA fun ac hA => st_k hA fun ac hA => st_k hA fun ac hA => st_k hA fun ac hA => st_k hA fun ac hA => st_k hA fun ac hA => st_p (vB false) hA fun ac hA => st_p (vB false) hA fun ac hA => wn <| wp_ret <| r1 (vB false) hA ?_
   clear hA
   dsimp only at h28e
   replace h28e : ¬ _ := h28e
   exact ⟨retv (congrArg vB (decide_eq_false (by unfold EvOk; omega)).symm), hW.fr⟩
  have h20 := of_decide_eq_false h20
  rcases Bool.eq_false_or_eq_true (decide (x.kind = 2)) with h30 | h30
  ·
   have h30 := of_decide_eq_true h30
   rw [named_a (by omega)] at hA
   have hW : Ws w No [PcObj n5, PcAddr n6, PcAddr n7, PcChild n8, PcObjCount n9, PcTrap n10, PcNo n11, PcNo n12, Cel b17 #[vI .i64 x.g, vI .i64 x.kind, vI .i64 x.site.f, vI .i64 x.site.pc, vI .u32 0, vI .i64 0, vI .i64 0, vI .i64 0, vI .i64 0] 43, Cel b1 #[vI .i64 x.g, vI .i64 x.kind, vI .i64 x.site.f, vI .i64 x.site.pc, vI .u32 x.addr, vI .i64 x.child, vI .i64 x.obj, vI .i64 x.n, vI .i64 x.trap] 43] [] w19 := Ws.unpack (hW.pick [1, 0, 2] (by decide) rfl)
   have hW : Ws w No [PcAddr n6, Cel b17 #[vI .i64 x.g, vI .i64 x.kind, vI .i64 x.site.f, vI .i64 x.site.pc, vI .u32 0, vI .i64 0, vI .i64 0, vI .i64 0, vI .i64 0] 43, Cel b1 #[vI .i64 x.g, vI .i64 x.kind, vI .i64 x.site.f, vI .i64 x.site.pc, vI .u32 x.addr, vI .i64 x.child, vI .i64 x.obj, vI .i64 x.n, vI .i64 x.trap] 43] [] w19 := hW.pick [1, 8, 9] (by decide) rfl
   refine wp_region_lit <| st_p (vS (some ⟨n6, 0, none⟩) 1 1) hA fun ac hA => st_p (vI .i64 1) hA fun ac hA => st_p (vI .i64 0) hA fun ac hA => wn <| wp_block <| wp_loop_rounds 3 ?_
   rw [rounds_succ]
   refine wr <| st_p (vB true) hA ?_; clear hA ac; intro ac hA
   refine wn <| wp_seq <| wp_cond_true (hA.eval (by kernel_rfl)) <| wp_skip <| thenN <| wp_seq <| wp_block <| wr <| st_p (pA n6 0) hA fun ac hA => st_q (vA #[vI .i64 0, vI .i64 4294967295, vI .i64 4, vF (.func 171) #[] #[], vF (.func 172) #[] #[], vF (.func 170) #[] #[]]) hA hW.cls (rl n6 0 0) fun ac hA => st_s hA (Runs.cells (fun b => pA b 0) #[vI .i64 0, vI .i64 0, vI .i64 0, Value.nilFunc, Value.nilFunc, Value.nilFunc] 267 (fun _ => by kernel_rfl) hW ?_); clear hA ac hW; intro b31 w32 hW hb31 hfw32 ac hA
   refine st_s hA (Runs.store (v := vA #[vI .i64 0, vI .i64 4294967295, vI .i64 4, vF (.func 171) #[] #[], vF (.func 172) #[] #[], vF (.func 170) #[] #[]]) (b := b31) (j := 0) (n := 6) (cs' := #[vI .i64 0, vI .i64 4294967295, vI .i64 4, vF (.func 171) #[] #[], vF (.func 172) #[] #[], vF (.func 170) #[] #[]]) (H' := [Cel b31 #[vI .i64 0, vI .i64 4294967295, vI .i64 4, vF (.func 171) #[] #[], vF (.func 172) #[] #[], vF (.func 170) #[] #[]] 267, PcAddr n6, Cel b17 #[vI .i64 x.g, vI .i64 x.kind, vI .i64 x.site.f, vI .i64 x.site.pc, vI .u32 0, vI .i64 0, vI .i64 0, vI .i64 0, vI .i64 0] 43, Cel b1 #[vI .i64 x.g, vI .i64 x.kind, vI .i64 x.site.f, vI .i64 x.site.pc, vI .u32 x.addr, vI .i64 x.child, vI .i64 x.obj, vI .i64 x.n, vI .i64 x.trap] 43]) (by kernel_rfl) (by kernel_rfl) (by kernel_rfl) (by kernel_rfl) (by kernel_rfl) hW 0 (by rfl) (Nat.le_of_ble_eq_true (by kernel_rfl)) (by kernel_rfl) (by rfl) ?_); clear hA ac hW; intro w33 hW ac hA
   refine wn <| wr <| st_p (pA b31 3) hA fun ac hA => st_q (vF (.func 171) #[] #[]) hA hW.cls (rl b31 3 0) fun ac hA => st_q (vA #[vI .i64 x.g, vI .i64 x.kind, vI .i64 x.site.f, vI .i64 x.site.pc, vI .u32 x.addr, vI .i64 x.child, vI .i64 x.obj, vI .i64 x.n, vI .i64 x.trap]) hA hW.cls (rl b1 0 3) fun ac hA => st_s hA (Runs.callN (v := vI .i64 x.addr) (fun _ => by kernel_rfl) hW (e_paddr1 x w33 (by first | omega | assumption)) ?_); clear hA ac hW; intro w34 hW hfw34 ac hA
   refine st_p (vI .i64 x.addr) hA ?_; clear hA ac; intro ac hA
   refine wn <| wp_seq <| wr <| st_p (vI .i64 x.addr) hA fun ac hA => st_p (pA b31 0) hA fun ac hA => st_q (vI .i64 0) hA hW.cls (rl b31 0 0) fun ac hA => st_p (vB (decide ((x.addr : Int) < (0 : Int)))) hA fun ac hA => st_p (vB (decide ((x.addr : Int) < (0 : Int)))) hA fun ac hA => ?_
   rcases Bool.eq_false_or_eq_true (decide ((x.addr : Int) < (0 : Int))) with h35 | h35
   ·
    rw [h35] at hA
    have h35 := of_decide_eq_true h35
    exfalso; clear hA hW; omega
   rw [h35] at hA
   have h35 := of_decide_eq_false h35
   refine st_p (vI .i64 x.addr) hA fun ac hA => st_p (pA b31 1) hA fun ac hA => st_q (vI .i64 4294967295) hA hW.cls (rl b31 1 0) fun ac hA => st_p (vB (decide ((x.addr : Int) > (4294967295 : Int)))) hA fun ac hA => st_p (vB (decide ((x.addr : Int) > (4294967295 : Int)))) hA fun ac hA => wn <| wp_cond_split (t := decide ((x.addr : Int) > (4294967295 : Int))) (hA.eval (by kernel_rfl)) (fun h36 => ?_) (fun h36 => ?_)
   ·
    have h36 := of_decide_eq_true h36
    exfalso; clear hA hW; omega
   have h36 := of_decide_eq_false h36
   refine wp_skip <| thenN ?_
   have hW : Ws w No [EvR b17 (⟨x.g, x.kind, x.site, 0, 0, 0, 0, 0⟩ : Event), Cel b31 #[vI .i64 0, vI .i64 4294967295, vI .i64 4, vF (.func 171) #[] #[], vF (.func 172) #[] #[], vF (.func 170) #[] #[]] 267, PcAddr n6, Cel b1 #[vI .i64 x.g, vI .i64 x.kind, vI .i64 x.site.f, vI .i64 x.site.pc, vI .u32 x.addr, vI .i64 x.child, vI .i64 x.obj, vI .i64 x.n, vI .i64 x.trap] 43] [] w34 := Ws.pack (hW.pick [2, 0, 1, 3] (by decide) rfl)
   refine wp_region_lit <| st_p (pA b31 4) hA fun ac hA => st_q (vF (.func 172) #[] #[]) hA hW.cls (rl b31 4 1) fun ac hA => st_p (vI .i64 x.addr) hA fun ac hA => st_s hA (Runs.call (fun _ => by kernel_rfl) (e_paddr2 b17 (⟨x.g, x.kind, x.site, 0, 0, 0, 0, 0⟩ : Event) (x.addr) w34 ((hW).get 0 rfl) ((hW).lt _ (List.mem_of_getElem? (i := 0) rfl)) (by first | omega | assumption)) ?_)
   rintro _ w37 ⟨rfl, hu_⟩; refine ⟨_, rfl, ?_⟩; replace hW := hW.upd (H' := [EvR b17 (⟨(⟨x.g, x.kind, x.site, 0, 0, 0, 0, 0⟩ : Event).g, (⟨x.g, x.kind, x.site, 0, 0, 0, 0, 0⟩ : Event).kind, (⟨x.g, x.kind, x.site, 0, 0, 0, 0, 0⟩ : Event).site, (x.addr), (⟨x.g, x.kind, x.site, 0, 0, 0, 0, 0⟩ : Event).child, (⟨x.g, x.kind, x.site, 0, 0, 0, 0, 0⟩ : Event).obj, (⟨x.g, x.kind, x.site, 0, 0, 0, 0, 0⟩ : Event).n, (⟨x.g, x.kind, x.site, 0, 0, 0, 0, 0⟩ : Event).trap⟩ : Event), Cel b31 #[vI .i64 0, vI .i64 4294967295, vI .i64 4, vF (.func 171) #[] #[], vF (.func 172) #[] #[], vF (.func 170) #[] #[]] 267, PcAddr n6, Cel b1 #[vI .i64 x.g, vI .i64 x.kind, vI .i64 x.site.f, vI .i64 x.site.pc, vI .u32 x.addr, vI .i64 x.child, vI .i64 x.obj, vI .i64 x.n, vI .i64 x.trap] 43]) 0 rfl hu_ rfl; clear hA ac; intro ac hA
   refine wpList_nil <| blkN <| thenN <| wp_region_lit <| st_q (vI .i64 1) hA hW.cls (Rd.pureE (v0 := vI .i64 (IntKind.i64.wrap ((0 : Int) + 1))) (fun _ => by kernel_rfl) (congrArg (vI .i64) ((w_i64 (x := (0 : Int) + 1) (by omega) (by omega)).trans (by omega)))) fun ac hA => st_p (vI .i64 1) hA fun ac hA => wn ?_
   rw [rounds_succ]
   refine wr <| st_p (vB false) hA ?_; clear hA ac; intro ac hA
   refine wn <| wp_seq <| wp_cond_false (hA.eval (by kernel_rfl)) <| wp_exit <| thenX <| thenX <| blkX <| thenN <| wp_seq ?_
   have hW : Ws w No [Cel b17 #[vI .i64 x.g, vI .i64 x.kind, vI .i64 x.site.f, vI .i64 x.site.pc, vI .u32 (x.addr), vI .i64 0, vI .i64 0, vI .i64 0, vI .i64 0] 43, Cel b31 #[vI .i64 0, vI .i64 4294967295, vI .i64 4, vF (.func 171) #[] #[], vF (.func 172) #[] #[], vF (.func 170) #[] #[]] 267, PcAddr n6, Cel b1 #[vI .i64 x.g, vI .i64 x.kind, vI .i64 x.site.f, vI .i64 x.site.pc, vI .u32 x.addr, vI .i64 x.child, vI .i64 x.obj, vI .i64 x.n, vI .i64 x.trap] 43] [] w37 := Ws.unpack (hW.pick [0, 1, 2, 3] (by decide) rfl)
   refine wp_region_lit <| st_q (vA #[vI .i64 x.g, vI .i64 x.kind, vI .i64 x.site.f, vI .i64 x.site.pc, vI .u32 (x.addr), vI .i64 0, vI .i64 0, vI .i64 0, vI .i64 0]) hA hW.cls (rl b17 0 0) fun ac hA => st_q (vA #[vI .i64 x.g, vI .i64 x.kind, vI .i64 x.site.f, vI .i64 x.site.pc, vI .u32 x.addr, vI .i64 x.child, vI .i64 x.obj, vI .i64 x.n, vI .i64 x.trap]) hA hW.cls (rl b1 0 3) fun ac hA => st_q (vB (decide ((⟨x.g, x.kind, x.site, (x.addr), 0, 0, 0, 0⟩ : Event) = x))) hA hW.cls (Rd.eqS (u := (⟨x.g, x.kind, x.site, (x.addr), 0, 0, 0, 0⟩ : Event).v) (v := x.v) (by kernel_rfl) (by kernel_rfl) rfl rfl (by kernel_rfl) (fun w => eq_Event w (⟨x.g, x.kind, x.site, (x.addr), 0, 0, 0, 0⟩ : Event) x)) fun ac hA => st_p (vB (decide ((⟨x.g, x.kind, x.site, (x.addr), 0, 0, 0, 0⟩ : Event) = x))) hA fun ac hA => ?_
   rcases Bool.eq_false_or_eq_true (decide ((⟨x.g, x.kind, x.site, (x.addr), 0, 0, 0, 0⟩ : Event) = x)) with h38 | h38
   ·
    rw [h38] at hA
    have h38 := of_decide_eq_true h38
    have h38e := (Event.eqi _ _).1 h38
    refine st_p (pA b1 1) hA fun ac hA => st_q (vI .i64 x.kind) hA hW.cls (rl b1 1 3) fun ac hA => st_p (vB ((x.kind : Int) != (4 : Int))) hA fun ac hA => st_p (vB ((x.kind : Int) != (4 : Int))) hA fun ac hA => ?_
    rcases Bool.eq_false_or_eq_true ((x.kind : Int) != (4 : Int)) with h39 | h39
    ·
     rw [h39] at hA
     have h39 := bne_iff_ne.1 h39
     refine st_k hA fun ac hA => st_k hA fun ac hA => st_k hA fun ac hA => st_k hA fun ac hA => st_k hA fun ac hA => st_p (vB true) hA fun ac hA => st_p (vB true) hA fun ac hA => st_p (vB true) hA fun ac hA => wn <| wp_ret <| r1 (vB true) hA ?_
     clear hA
     dsimp only at h38e
     exact ⟨retv (congrArg vB (decide_eq_true (by unfold EvOk; omega)).symm), hW.fr⟩
    rw [h39] at hA
    have h39 := of_bne_f h39
    exfalso; clear hA hW; omega
   rw [h38] at hA
   have h38 := of_decide_eq_false h38
   have h38e := fun e => h38 ((Event.eqi _ _).2 e)
   refine st_k hA fun ac hA => st_k hA fun ac hA => st_k hA fun ac hA => st_k hA fun ac hA => st_k hA fun ac hA => st_k hA fun ac hA => st_k hA fun ac hA => st_k hA fun ac hA => st_k hA fun ac hA => st_k hA fun ac hA => st_p (vB false) hA fun ac hA => st_p (vB false) hA fun ac hA => wn <| wp_ret <| r1 (vB false) hA ?_
   clear hA
   dsimp only at h38e
   replace h38e : ¬ _ := h38e
   exact ⟨retv (congrArg vB (decide_eq_false (by unfold EvOk; omega)).symm), hW.fr⟩
  have h30 := of_decide_eq_false h30
  rcases Bool.eq_false_or_eq_true (decide (x.kind = 3)) with h40 | h40
  ·
   have h40 := of_decide_eq_true h40
   rw [named_b (by omega)] at hA
   have hW : Ws w No [PcObj n5, PcAddr n6, PcAddr n7, PcChild n8, PcObjCount n9, PcTrap n10, PcNo n11, PcNo n12, Cel b17 #[vI .i64 x.g, vI .i64 x.kind, vI .i64 x.site.f, vI .i64 x.site.pc, vI .u32 0, vI .i64 0, vI .i64 0, vI .i64 0, vI .i64 0] 43, Cel b1 #[vI .i64 x.g, vI .i64 x.kind, vI .i64 x.site.f, vI .i64 x.site.pc, vI .u32 x.addr, vI .i64 x.child, vI .i64 x.obj, vI .i64 x.n, vI .i64 x.trap] 43] [] w19 := Ws.unpack (hW.pick [1, 0, 2] (by decide) rfl)
   have hW : Ws w No [PcAddr n7, Cel b17 #[vI .i64 x.g, vI .i64 x.kind, vI .i64 x.site.f, vI .i64 x.site.pc, vI .u32 0, vI .i64 0, vI .i64 0, vI .i64 0, vI .i64 0] 43, Cel b1 #[vI .i64 x.g, vI .i64 x.kind, vI .i64 x.site.f, vI .i64 x.site.pc, vI .u32 x.addr, vI .i64 x.child, vI .i64 x.obj, vI .i64 x.n, vI .i64 x.trap] 43] [] w19 := hW.pick [2, 8, 9] (by decide) rfl
   refine wp_region_lit <| st_p (vS (some ⟨n7, 0, none⟩) 1 1) hA fun ac hA => st_p (vI .i64 1) hA fun ac hA => st_p (vI .i64 0) hA fun ac hA => wn <| wp_block <| wp_loop_rounds 3 ?_
   rw [rounds_succ]
   refine wr <| st_p (vB true) hA ?_; clear hA ac; intro ac hA
   refine wn <| wp_seq <| wp_cond_true (hA.eval (by kernel_rfl)) <| wp_skip <| thenN <| wp_seq <| wp_block <| wr <| st_p (pA n7 0) hA fun ac hA => st_q (vA #[vI .i64 0, vI .i64 4294967295, vI .i64 4, vF (.func 171) #[] #[], vF (.func 172) #[] #[], vF (.func 170) #[] #[]]) hA hW.cls (rl n7 0 0) fun ac hA => st_s hA (Runs.cells (fun b => pA b 0) #[vI .i64 0, vI .i64 0, vI .i64 0, Value.nilFunc, Value.nilFunc, Value.nilFunc] 267 (fun _ => by kernel_rfl) hW ?_); clear hA ac hW; intro b41 w42 hW hb41 hfw42 ac hA
   refine st_s hA (Runs.store (v := vA #[vI .i64 0, vI .i64 4294967295, vI .i64 4, vF (.func 171) #[] #[], vF (.func 172) #[] #[], vF (.func 170) #[] #[]]) (b := b41) (j := 0) (n := 6) (cs' := #[vI .i64 0, vI .i64 4294967295, vI .i64 4, vF (.func 171) #[] #[], vF (.func 172) #[] #[], vF (.func 170) #[] #[]]) (H' := [Cel b41 #[vI .i64 0, vI .i64 4294967295, vI .i64 4, vF (.func 171) #[] #[], vF (.func 172) #[] #[], vF (.func 170) #[] #[]] 267, PcAddr n7, Cel b17 #[vI .i64 x.g, vI .i64 x.kind, vI .i64 x.site.f, vI .i64 x.site.pc, vI .u32 0, vI .i64 0, vI .i64 0, vI .i64 0, vI .i64 0] 43, Cel b1 #[vI .i64 x.g, vI .i64 x.kind, vI .i64 x.site.f, vI .i64 x.site.pc, vI .u32 x.addr, vI .i64 x.child, vI .i64 x.obj, vI .i64 x.n, vI .i64 x.trap] 43]) (by kernel_rfl) (by kernel_rfl) (by kernel_rfl) (by kernel_rfl) (by kernel_rfl) hW 0 (by rfl) (Nat.le_of_ble_eq_true (by kernel_rfl)) (by kernel_rfl) (by rfl) ?_); clear hA ac hW; intro w43 hW ac hA
   refine wn <| wr <| st_p (pA b41 3) hA fun ac hA => st_q (vF (.func 171) #[] #[]) hA hW.cls (rl b41 3 0) fun ac hA => st_q (vA #[vI .i64 x.g, vI .i64 x.kind, vI .i64 x.site.f, vI .i64 x.site.pc, vI .u32 x.addr, vI .i64 x.child, vI .i64 x.obj, vI .i64 x.n, vI .i64 x.trap]) hA hW.cls (rl b1 0 3) fun ac hA => st_s hA (Runs.callN (v := vI .i64 x.addr) (fun _ => by kernel_rfl) hW (e_paddr1 x w43 (by first | omega | assumption)) ?_); clear hA ac hW; intro w44 hW hfw44 ac hA
   refine st_p (vI .i64 x.addr) hA ?_; clear hA ac; intro ac hA
   refine wn <| wp_seq <| wr <| st_p (vI .i64 x.addr) hA fun ac hA => st_p (pA b41 0) hA fun ac hA => st_q (vI .i64 0) hA hW.cls (rl b41 0 0) fun ac hA => st_p (vB (decide ((x.addr : Int) < (0 : Int)))) hA fun ac hA => st_p (vB (decide ((x.addr : Int) < (0 : Int)))) hA fun ac hA => ?_
   rcases Bool.eq_false_or_eq_true (decide ((x.addr : Int) < (0 : Int))) with h45 | h45
   ·
    rw [h45] at hA
    have h45 := of_decide_eq_true h45
    exfalso; clear hA hW; omega
   rw [h45] at hA
   have h45 := of_decide_eq_false h45
   refine st_p (vI .i64 x.addr) hA fun ac hA => st_p (pA b41 1) hA fun ac hA => st_q (vI .i64 4294967295) hA hW.cls (rl b41 1 0) fun ac hA => st_p (vB (decide ((x.addr : Int) > (4294967295 : Int)))) hA fun ac hA => st_p (vB (decide ((x.addr : Int) > (4294967295 : Int)))) hA fun ac hA => wn <| wp_cond_split (t := decide ((x.addr : Int) > (4294967295 : Int))) (hA.eval (by kernel_rfl)) (fun h46 => ?_) (fun h46 => ?_)
   ·
    have h46 := of_decide_eq_true h46
    exfalso; clear hA hW; omega
   have h46 := of_decide_eq_false h46
   refine wp_skip <| thenN ?_
   have hW : Ws w No [EvR b17 (⟨x.g, x.kind, x.site, 0, 0, 0, 0, 0⟩ : Event), Cel b41 #[vI .i64 0, vI .i64 4294967295, vI .i64 4, vF (.func 171) #[] #[], vF (.func 172) #[] #[], vF (.func 170) #[] #[]] 267, PcAddr n7, Cel b1 #[vI .i64 x.g, vI .i64 x.kind, vI .i64 x.site.f, vI .i64 x.site.pc, vI .u32 x.addr, vI .i64 x.child, vI .i64 x.obj, vI .i64 x.n, vI .i64 x.trap] 43] [] w44 := Ws.pack (hW.pick [2, 0, 1, 3] (by decide) rfl)
   refine wp_region_lit <| st_p (pA b41 4) hA fun ac hA => st_q (vF (.func 172) #[] #[]) hA hW.cls (rl b41 4 1) fun ac hA => st_p (vI .i64 x.addr) hA fun ac hA => st_s hA (Runs.call (fun _ => by kernel_rfl) (e_paddr2 b17 (⟨x.g, x.kind, x.site, 0, 0, 0, 0, 0⟩ : Event) (x.addr) w44 ((hW).get 0 rfl) ((hW).lt _ (List.mem_of_getElem? (i := 0) rfl)) (by first | omega | assumption)) ?_)
   rintro _ w47 ⟨rfl, hu_⟩; refine ⟨_, rfl, ?_⟩; replace hW := hW.upd (H' := [EvR b17 (⟨(⟨x.g, x.kind, x.site, 0, 0, 0, 0, 0⟩ : Event).g, (⟨x.g, x.kind, x.site, 0, 0, 0, 0, 0⟩ : Event).kind, (⟨x.g, x.kind, x.site, 0, 0, 0, 0, 0⟩ : Event).site, (x.addr), (⟨x.g, x.kind, x.site, 0, 0, 0, 0, 0⟩ : Event).child, (⟨x.g, x.kind, x.site, 0, 0, 0, 0, 0⟩ : Event).obj, (⟨x.g, x.kind, x.site, 0, 0, 0, 0, 0⟩ : Event).n, (⟨x.g, x.kind, x.site, 0, 0, 0, 0, 0⟩ : Event).trap⟩ : Event), Cel b41 #[vI .i64 0, vI .i64 4294967295, vI .i64 4, vF (.func 171) #[] #[], vF (.func 172) #[] #[], vF (.func 170) #[] #[]] 267, PcAddr n7, Cel b1 #[vI .i64 x.g, vI .i64 x.kind, vI .i64 x.site.f, vI .i64 x.site.pc, vI .u32 x.addr, vI .i64 x.child, vI .i64 x.obj, vI .i64 x.n, vI .i64 x.trap] 43]) 0 rfl hu_ rfl; clear hA ac; intro ac hA
   refine wpList_nil <| blkN <| thenN <| wp_region_lit <| st_q (vI .i64 1) hA hW.cls (Rd.pureE (v0 := vI .i64 (IntKind.i64.wrap ((0 : Int) + 1))) (fun _ => by kernel_rfl) (congrArg (vI .i64) ((w_i64 (x := (0 : Int) + 1) (by omega) (by omega)).trans (by omega)))) fun ac hA => st_p (vI .i64 1) hA fun ac hA => wn ?_
   rw [rounds_succ]
   refine wr <| st_p (vB false) hA ?_; clear hA ac; intro ac hA
   refine wn <| wp_seq <| wp_cond_false (hA.eval (by kernel_rfl)) <| wp_exit <| thenX <| thenX <| blkX <| thenN <| wp_seq ?_
   have hW : Ws w No [Cel b17 #[vI .i64 x.g, vI .i64 x.kind, vI .i64 x.site.f, vI .i64 x.site.pc, vI .u32 (x.addr), vI .i64 0, vI .i64 0, vI .i64 0, vI .i64 0] 43, Cel b41 #[vI .i64 0, vI .i64 4294967295, vI .i64 4, vF (.func 171) #[] #[], vF (.func 172) #[] #[], vF (.func 170) #[] #[]] 267, PcAddr n7, Cel b1 #[vI .i64 x.g, vI .i64 x.kind, vI .i64 x.site.f, vI .i64 x.site.pc, vI .u32 x.addr, vI .i64 x.child, vI .i64 x.obj, vI .i64 x.n, vI .i64 x.trap] 43] [] w47 := Ws.unpack (hW.pick [0, 1, 2, 3] (by decide) rfl)
   refine wp_region_lit <| st_q (vA #[vI .i64 x.g, vI .i64 x.kind, vI .i64 x.site.f, vI .i64 x.site.pc, vI .u32 (x.addr), vI .i64 0, vI .i64 0, vI .i64 0, vI .i64 0]) hA hW.cls (rl b17 0 0) fun ac hA => st_q (vA #[vI .i64 x.g, vI .i64 x.kind, vI .i64 x.site.f, vI .i64 x.site.pc, vI .u32 x.addr, vI .i64 x.child, vI .i64 x.obj, vI .i64 x.n, vI .i64 x.trap]) hA hW.cls (rl b1 0 3) fun ac hA => st_q (vB (decide ((⟨x.g, x.kind, x.site, (x.addr), 0, 0, 0, 0⟩ : Event) = x))) hA hW.cls (Rd.eqS (u := (⟨x.g, x.kind, x.site, (x.addr), 0, 0, 0, 0⟩ : Event).v) (v := x.v) (by kernel_rfl) (by kernel_rfl) rfl rfl (by kernel_rfl) (fun w => eq_Event w (⟨x.g, x.kind, x.site, (x.addr), 0, 0, 0, 0⟩ : Event) x)) fun ac hA => st_p (vB (decide ((⟨x.g, x.kind, x.site, (x.addr), 0, 0, 0, 0⟩ : Event) = x))) hA fun ac hA => ?_
   rcases Bool.eq_false_or_eq_true (decide ((⟨x.g, x.kind, x.site, (x.addr), 0, 0, 0, 0⟩ : Event) = x)) with h48 | h48
   ·
    rw [h48] at hA
    have h48 := of_decide_eq_true h48
    have h48e := (Event.eqi _ _).1 h48
    refine st_p (pA b1 1) hA fun ac hA => st_q (vI .i64 x.kind) hA hW.cls (rl b1 1 3) fun ac hA => st_p (vB ((x.kind : Int) != (4 : Int))) hA fun ac hA => st_p (vB ((x.kind : Int) != (4 : Int))) hA fun ac hA => ?_
    rcases Bool.eq_false_or_eq_true ((x.kind : Int) != (4 : Int)) with h49 | h49
    ·
     rw [h49] at hA
     have h49 := bne_iff_ne.1 h49
     refine st_k hA fun ac hA => st_k hA fun ac hA => st_k hA fun ac hA => st_k hA fun ac hA => st_k hA fun ac hA => st_p (vB true) hA fun ac hA => st_p (vB true) hA fun ac hA => st_p (vB true) hA fun ac hA => wn <| wp_ret <| r1 (vB true) hA ?_
     clear hA
     dsimp only at h48e
     exact ⟨retv (congrArg vB (decide_eq_true (by unfold EvOk; omega)).symm), hW.fr⟩
    rw [h49] at hA
    have h49 := of_bne_f h49
    exfalso; clear hA hW; omega
   rw [h48] at hA
   have h48 := of_decide_eq_false h48
   have h48e := fun e => h48 ((Event.eqi _ _).2 e)
   refine st_k hA fun ac hA => st_k hA fun ac hA => st_k hA fun ac hA => st_k hA fun ac hA => st_k hA fun ac hA => st_k hA fun ac hA => st_k hA fun ac hA => st_k hA fun ac hA => st_k hA fun ac hA => st_k hA fun ac hA => st_p (vB false) hA fun ac hA => st_p (vB false) hA fun ac hA => wn <| wp_ret <| r1 (vB false) hA ?_
   clear hA
   dsimp only at h48e
   replace h48e : ¬ _ := h48e
   exact ⟨retv (congrArg vB (decide_eq_false (by unfold EvOk; omega)).symm), hW.fr⟩
  have h40 := of_decide_eq_false h40
  rcases Bool.eq_false_or_eq_true (decide (x.kind = 4)) with h50 | h50
  ·
   have h50 := of_decide_eq_true h50
   rw [named_c (by omega)] at hA
   have hW : Ws w No [PcObj n5, PcAddr n6, PcAddr n7, PcChild n8, PcObjCount n9, PcTrap n10, PcNo n11, PcNo n12, Cel b17 #[vI .i64 x.g, vI .i64 x.kind, vI .i64 x.site.f, vI .i64 x.site.pc, vI .u32 0, vI .i64 0, vI .i64 0, vI .i64 0, vI .i64 0] 43, Cel b1 #[vI .i64 x.g, vI .i64 x.kind, vI .i64 x.site.f, vI .i64 x.site.pc, vI .u32 x.addr, vI .i64 x.child, vI .i64 x.obj, vI .i64 x.n, vI .i64 x.trap] 43] [] w19 := Ws.unpack (hW.pick [1, 0, 2] (by decide) rfl)
   have hW : Ws w No [PcChild n8, Cel b17 #[vI .i64 x.g, vI .i64 x.kind, vI .i64 x.site.f, vI .i64 x.site.pc, vI .u32 0, vI .i64 0, vI .i64 0, vI .i64 0, vI .i64 0] 43, Cel b1 #[vI .i64 x.g, vI .i64 x.kind, vI .i64 x.site.f, vI .i64 x.site.pc, vI .u32 x.addr, vI .i64 x.child, vI .i64 x.obj, vI .i64 x.n, vI .i64 x.trap] 43] [] w19 := hW.pick [3, 8, 9] (by decide) rfl
   refine wp_region_lit <| st_p (vS (some ⟨n8, 0, none⟩) 1 1) hA fun ac hA => st_p (vI .i64 1) hA fun ac hA => st_p (vI .i64 0) hA fun ac hA => wn <| wp_block <| wp_loop_rounds 3 ?_
   rw [rounds_succ]
   refine wr <| st_p (vB true) hA ?_; clear hA ac; intro ac hA
   refine wn <| wp_seq <| wp_cond_true (hA.eval (by kernel_rfl)) <| wp_skip <| thenN <| wp_seq <| wp_block <| wr <| st_p (pA n8 0) hA fun ac hA => st_q (vA #[vI .i64 1, vI .i64 65535, vI .i64 2, vF (.func 173) #[] #[], vF (.func 174) #[] #[], vF (.func 170) #[] #[]]) hA hW.cls (rl n8 0 0) fun ac hA => st_s hA (Runs.cells (fun b => pA b 0) #[vI .i64 0, vI .i64 0, vI .i64 0, Value.nilFunc, Value.nilFunc, Value.nilFunc] 267 (fun _ => by kernel_rfl) hW ?_); clear hA ac hW; intro b51 w52 hW hb51 hfw52 ac hA
   refine st_s hA (Runs.store (v := vA #[vI .i64 1, vI .i64 65535, vI .i64 2, vF (.func 173) #[] #[], vF (.func 174) #[] #[], vF (.func 170) #[] #[]]) (b := b51) (j := 0) (n := 6) (cs' := #[vI .i64 1, vI .i64 65535, vI .i64 2, vF (.func 173) #[] #[], vF (.func 174) #[] #[], vF (.func 170) #[] #[]]) (H' := [Cel b51 #[vI .i64 1, vI .i64 65535, vI .i64 2, vF (.func 173) #[] #[], vF (.func 174) #[] #[], vF (.func 170) #[] #[]] 267, PcChild n8, Cel b17 #[vI .i64 x.g, vI .i64 x.kind, vI .i64 x.site.f, vI .i64 x.site.pc, vI .u32 0, vI .i64 0, vI .i64 0, vI .i64 0, vI .i64 0] 43, Cel b1 #[vI .i64 x.g, vI .i64 x.kind, vI .i64 x.site.f, vI .i64 x.site.pc, vI .u32 x.addr, vI .i64 x.child, vI .i64 x.obj, vI .i64 x.n, vI .i64 x.trap] 43]) (by kernel_rfl) (by kernel_rfl) (by kernel_rfl) (by kernel_rfl) (by kernel_rfl) hW 0 (by rfl) (Nat.le_of_ble_eq_true (by kernel_rfl)) (by kernel_rfl) (by rfl) ?_); clear hA ac hW; intro w53 hW ac hA
   refine wn <| wr <| st_p (pA b51 3) hA fun ac hA => st_q (vF (.func 173) #[] #[]) hA hW.cls (rl b51 3 0) fun ac hA => st_q (vA #[vI .i64 x.g, vI .i64 x.kind, vI .i64 x.site.f, vI .i64 x.site.pc, vI .u32 x.addr, vI .i64 x.child, vI .i64 x.obj, vI .i64 x.n, vI .i64 x.trap]) hA hW.cls (rl b1 0 3) fun ac hA => st_s hA (Runs.callN (v := vI .i64 x.child) (fun _ => by kernel_rfl) hW (e_pchild1 x w53) ?_); clear hA ac hW; intro w54 hW hfw54 ac hA
   refine st_p (vI .i64 x.child) hA ?_; clear hA ac; intro ac hA
   refine wn <| wp_seq <| wr <| st_p (vI .i64 x.child) hA fun ac hA => st_p (pA b51 0) hA fun ac hA => st_q (vI .i64 1) hA hW.cls (rl b51 0 0) fun ac hA => st_p (vB (decide ((x.child : Int) < (1 : Int)))) hA fun ac hA => st_p (vB (decide ((x.child : Int) < (1 : Int)))) hA fun ac hA => ?_
   rcases Bool.eq_false_or_eq_true (decide ((x.child : Int) < (1 : Int))) with h55 | h55
   ·
    rw [h55] at hA
    have h55 := of_decide_eq_true h55
    refine st_k hA fun ac hA => st_k hA fun ac hA => st_k hA fun ac hA => st_k hA fun ac hA => st_p (vB true) hA fun ac hA => wn <| wp_cond_true (hA.eval (by kernel_rfl)) <| wr <| st_p (vB false) hA ?_; clear hA ac; intro ac hA
    refine wn <| wp_ret <| thenR <| blkR <| thenR <| thenR <| blkR <| thenR <| r1 (vB false) hA ?_
    clear hA
    exact ⟨retv (congrArg vB (decide_eq_false (by unfold EvOk; omega)).symm), hW.fr⟩
   rw [h55] at hA
   have h55 := of_decide_eq_false h55
   refine st_p (vI .i64 x.child) hA fun ac hA => st_p (pA b51 1) hA fun ac hA => st_q (vI .i64 65535) hA hW.cls (rl b51 1 0) fun ac hA => st_p (vB (decide ((x.child : Int) > (65535 : Int)))) hA fun ac hA => st_p (vB (decide ((x.child : Int) > (65535 : Int)))) hA fun ac hA => wn <| wp_cond_split (t := decide ((x.child : Int) > (65535 : Int))) (hA.eval (by kernel_rfl)) (fun h56 => ?_) (fun h56 => ?_)
   ·
    have h56 := of_decide_eq_true h56
    refine wr <| st_p (vB false) hA ?_; clear hA ac; intro ac hA
    refine wn <| wp_ret <| thenR <| blkR <| thenR <| thenR <| blkR <| thenR <| r1 (vB false) hA ?_
    clear hA
    exact ⟨retv (congrArg vB (decide_eq_false (by unfold EvOk; omega)).symm), hW.fr⟩
   have h56 := of_decide_eq_false h56
   refine wp_skip <| thenN ?_
   have hW : Ws w No [EvR b17 (⟨x.g, x.kind, x.site, 0, 0, 0, 0, 0⟩ : Event), Cel b51 #[vI .i64 1, vI .i64 65535, vI .i64 2, vF (.func 173) #[] #[], vF (.func 174) #[] #[], vF (.func 170) #[] #[]] 267, PcChild n8, Cel b1 #[vI .i64 x.g, vI .i64 x.kind, vI .i64 x.site.f, vI .i64 x.site.pc, vI .u32 x.addr, vI .i64 x.child, vI .i64 x.obj, vI .i64 x.n, vI .i64 x.trap] 43] [] w54 := Ws.pack (hW.pick [2, 0, 1, 3] (by decide) rfl)
   refine wp_region_lit <| st_p (pA b51 4) hA fun ac hA => st_q (vF (.func 174) #[] #[]) hA hW.cls (rl b51 4 1) fun ac hA => st_p (vI .i64 x.child) hA fun ac hA => st_s hA (Runs.call (fun _ => by kernel_rfl) (e_pchild2 b17 (⟨x.g, x.kind, x.site, 0, 0, 0, 0, 0⟩ : Event) (x.child) w54 ((hW).get 0 rfl) ((hW).lt _ (List.mem_of_getElem? (i := 0) rfl)) (by first | omega | assumption)) ?_)
   rintro _ w57 ⟨rfl, hu_⟩; refine ⟨_, rfl, ?_⟩; replace hW := hW.upd (H' := [EvR b17 (⟨(⟨x.g, x.kind, x.site, 0, 0, 0, 0, 0⟩ : Event).g, (⟨x.g, x.kind, x.site, 0, 0, 0, 0, 0⟩ : Event).kind, (⟨x.g, x.kind, x.site, 0, 0, 0, 0, 0⟩ : Event).site, (⟨x.g, x.kind, x.site, 0, 0, 0, 0, 0⟩ : Event).addr, (x.child), (⟨x.g, x.kind, x.site, 0, 0, 0, 0, 0⟩ : Event).obj, (⟨x.g, x.kind, x.site, 0, 0, 0, 0, 0⟩ : Event).n, (⟨x.g, x.kind, x.site, 0, 0, 0, 0, 0⟩ : Event).trap⟩ : Event), Cel b51 #[vI .i64 1, vI .i64 65535, vI .i64 2, vF (.func 173) #[] #[], vF (.func 174) #[] #[], vF (.func 170) #[] #[]] 267, PcChild n8, Cel b1 #[vI .i64 x.g, vI .i64 x.kind, vI .i64 x.site.f, vI .i64 x.site.pc, vI .u32 x.addr, vI .i64 x.child, vI .i64 x.obj, vI .i64 x.n, vI .i64 x.trap] 43]) 0 rfl hu_ rfl; clear hA ac; intro ac hA
   refine wpList_nil <| blkN <| thenN <| wp_region_lit <| st_q (vI .i64 1) hA hW.cls (Rd.pureE (v0 := vI .i64 (IntKind.i64.wrap ((0 : Int) + 1))) (fun _ => by kernel_rfl) (congrArg (vI .i64) ((w_i64 (x := (0 : Int) + 1) (by omega) (by omega)).trans (by omega)))) fun ac hA => st_p (vI .i64 1) hA fun ac hA => wn ?_
   rw [rounds_succ]
   refine wr <| st_p (vB false) hA ?_; clear hA ac; intro ac hA
   refine wn <| wp_seq <| wp_cond_false (hA.eval (by kernel_rfl)) <| wp_exit <| thenX <| thenX <| blkX <| thenN <| wp_seq ?_
   have hW : Ws w No [Cel b17 #[vI .i64 x.g, vI .i64 x.kind, vI .i64 x.site.f, vI .i64 x.site.pc, vI .u32 0, vI .i64 (x.child), vI .i64 0, vI .i64 0, vI .i64 0] 43, Cel b51 #[vI .i64 1, vI .i64 65535, vI .i64 2, vF (.func 173) #[] #[], vF (.func 174) #[] #[], vF (.func 170) #[] #[]] 267, PcChild n8, Cel b1 #[vI .i64 x.g, vI .i64 x.kind, vI .i64 x.site.f, vI .i64 x.site.pc, vI .u32 x.addr, vI .i64 x.child, vI .i64 x.obj, vI .i64 x.n, vI .i64 x.trap] 43] [] w57 := Ws.unpack (hW.pick [0, 1, 2, 3] (by decide) rfl)
   refine wp_region_lit <| st_q (vA #[vI .i64 x.g, vI .i64 x.kind, vI .i64 x.site.f, vI .i64 x.site.pc, vI .u32 0, vI .i64 (x.child), vI .i64 0, vI .i64 0, vI .i64 0]) hA hW.cls (rl b17 0 0) fun ac hA => st_q (vA #[vI .i64 x.g, vI .i64 x.kind, vI .i64 x.site.f, vI .i64 x.site.pc, vI .u32 x.addr, vI .i64 x.child, vI .i64 x.obj, vI .i64 x.n, vI .i64 x.trap]) hA hW.cls (rl b1 0 3) fun ac hA => st_q (vB (decide ((⟨x.g, x.kind, x.site, 0, (x.child), 0, 0, 0⟩ : Event) = x))) hA hW.cls (Rd.eqS (u := (⟨x.g, x.kind, x.site, 0, (x.child), 0, 0, 0⟩ : Event).v) (v := x.v) (by kernel_rfl) (by kernel_rfl) rfl rfl (by kernel_rfl) (fun w => eq_Event w (⟨x.g, x.kind, x.site, 0, (x.child), 0, 0, 0⟩ : Event) x)) fun ac hA => st_p (vB (decide ((⟨x.g, x.kind, x.site, 0, (x.child), 0, 0, 0⟩ : Event) = x))) hA fun ac hA => ?_
   rcases Bool.eq_false_or_eq_true (decide ((⟨x.g, x.kind, x.site, 0, (x.child), 0, 0, 0⟩ : Event) = x)) with h58 | h58
   ·
    rw [h58] at hA
    have h58 := of_decide_eq_true h58
    have h58e := (Event.eqi _ _).1 h58
    refine st_p (pA b1 1) hA fun ac hA => st_q (vI .i64 x.kind) hA hW.cls (rl b1 1 3) fun ac hA => st_p (vB ((x.kind : Int) != (4 : Int))) hA fun ac hA => st_p (vB ((x.kind : Int) != (4 : Int))) hA fun ac hA => ?_
    rcases Bool.eq_false_or_eq_true ((x.kind : Int) != (4 : Int)) with h59 | h59
    ·
     rw [h59] at hA
     have h59 := bne_iff_ne.1 h59
     exfalso; clear hA hW; omega
    rw [h59] at hA
    have h59 := of_bne_f h59
    refine st_p (pA b1 5) hA fun ac hA => st_q (vI .i64 x.child) hA hW.cls (rl b1 5 3) fun ac hA => st_p (pA b1 0) hA fun ac hA => st_q (vI .i64 x.g) hA hW.cls (rl b1 0 3) fun ac hA => st_p (vB ((x.child : Int) != (x.g : Int))) hA fun ac hA => st_p (vB ((x.child : Int) != (x.g : Int))) hA fun ac hA => st_p (vB ((x.child : Int) != (x.g : Int))) hA fun ac hA => st_p (vB ((x.child : Int) != (x.g : Int))) hA fun ac hA => wn <| wp_ret <| r1 (vB ((x.child : Int) != (x.g : Int))) hA ?_
    clear hA
    dsimp only at h58e
    refine ⟨retv (congrArg vB ?_), hW.fr⟩
    rcases Bool.eq_false_or_eq_true ((x.child : Int) != (x.g : Int)) with q_ | q_
    · rw [q_]
      have q_ := bne_iff_ne.1 q_
      exact (decide_eq_true (by unfold EvOk; omega)).symm
    · rw [q_]
      have q_ := of_bne_f q_
      exact (decide_eq_false (by unfold EvOk; omega)).symm
   rw [h58] at hA
   have h58 := of_decide_eq_false h58
   have h58e := fun e => h58 ((Event.eqi _ _).2 e)
   refine st_k hA fun ac hA => st_k hA fun ac hA => st_k hA fun ac hA => st_k hA fun ac hA => st_k hA fun ac hA => st_k hA fun ac hA => st_k hA fun ac hA => st_k hA fun ac hA => st_k hA fun ac hA => st_k hA fun ac hA => st_p (vB false) hA fun ac hA => st_p (vB false) hA fun ac hA => wn <| wp_ret <| r1 (vB false) hA ?_
   clear hA
   dsimp only at h58e
   replace h58e : ¬ _ := h58e
   exact ⟨retv (congrArg vB (decide_eq_false (by unfold EvOk; omega)).symm), hW.fr⟩
  have h50 := of_decide_eq_false h50
  rcases Bool.eq_false_or_eq_true (decide (x.kind = 11)) with h60 | h60
  ·
   have h60 := of_decide_eq_true h60
   rw [named_n (by omega)] at hA
   have hW : Ws w No [PcObj n5, PcAddr n6, PcAddr n7, PcChild n8, PcObjCount n9, PcTrap n10, PcNo n11, PcNo n12, Cel b17 #[vI .i64 x.g, vI .i64 x.kind, vI .i64 x.site.f, vI .i64 x.site.pc, vI .u32 0, vI .i64 0, vI .i64 0, vI .i64 0, vI .i64 0] 43, Cel b1 #[vI .i64 x.g, vI .i64 x.kind, vI .i64 x.site.f, vI .i64 x.site.pc, vI .u32 x.addr, vI .i64 x.child, vI .i64 x.obj, vI .i64 x.n, vI .i64 x.trap] 43] [] w19 := Ws.unpack (hW.pick [1, 0, 2] (by decide) rfl)
   have hW : Ws w No [PcObjCount n9, Cel b17 #[vI .i64 x.g, vI .i64 x.kind, vI .i64 x.site.f, vI .i64 x.site.pc, vI .u32 0, vI .i64 0, vI .i64 0, vI .i64 0, vI .i64 0] 43, Cel b1 #[vI .i64 x.g, vI .i64 x.kind, vI .i64 x.site.f, vI .i64 x.site.pc, vI .u32 x.addr, vI .i64 x.child, vI .i64 x.obj, vI .i64 x.n, vI .i64 x.trap] 43] [] w19 := hW.pick [4, 8, 9] (by decide) rfl
   refine wp_region_lit <| st_p (vS (some ⟨n9, 0, none⟩) 2 2) hA fun ac hA => st_p (vI .i64 2) hA fun ac hA => st_p (vI .i64 0) hA fun ac hA => wn <| wp_block <| wp_loop_rounds 3 ?_
   rw [rounds_succ]
   refine wr <| st_p (vB true) hA ?_; clear hA ac; intro ac hA
   refine wn <| wp_seq <| wp_cond_true (hA.eval (by kernel_rfl)) <| wp_skip <| thenN <| wp_seq <| wp_block <| wr <| st_p (pA n9 0) hA fun ac hA => st_q (vA #[vI .i64 0, vI .i64 63, vI .i64 1, vF (.func 168) #[] #[], vF (.func 169) #[] #[], vF (.func 170) #[] #[]]) hA hW.cls (rl n9 0 0) fun ac hA => st_s hA (Runs.cells (fun b => pA b 0) #[vI .i64 0, vI .i64 0, vI .i64 0, Value.nilFunc, Value.nilFunc, Value.nilFunc] 267 (fun _ => by kernel_rfl) hW ?_); clear hA ac hW; intro b61 w62 hW hb61 hfw62 ac hA
   refine st_s hA (Runs.store (v := vA #[vI .i64 0, vI .i64 63, vI .i64 1, vF (.func 168) #[] #[], vF (.func 169) #[] #[], vF (.func 170) #[] #[]]) (b := b61) (j := 0) (n := 6) (cs' := #[vI .i64 0, vI .i64 63, vI .i64 1, vF (.func 168) #[] #[], vF (.func 169) #[] #[], vF (.func 170) #[] #[]]) (H' := [Cel b61 #[vI .i64 0, vI .i64 63, vI .i64 1, vF (.func 168) #[] #[], vF (.func 169) #[] #[], vF (.func 170) #[] #[]] 267, PcObjCount n9, Cel b17 #[vI .i64 x.g, vI .i64 x.kind, vI .i64 x.site.f, vI .i64 x.site.pc, vI .u32 0, vI .i64 0, vI .i64 0, vI .i64 0, vI .i64 0] 43, Cel b1 #[vI .i64 x.g, vI .i64 x.kind, vI .i64 x.site.f, vI .i64 x.site.pc, vI .u32 x.addr, vI .i64 x.child, vI .i64 x.obj, vI .i64 x.n, vI .i64 x.trap] 43]) (by kernel_rfl) (by kernel_rfl) (by kernel_rfl) (by kernel_rfl) (by kernel_rfl) hW 0 (by rfl) (Nat.le_of_ble_eq_true (by kernel_rfl)) (by kernel_rfl) (by rfl) ?_); clear hA ac hW; intro w63 hW ac hA
   refine wn <| wr <| st_p (pA b61 3) hA fun ac hA => st_q (vF (.func 168) #[] #[]) hA hW.cls (rl b61 3 0) fun ac hA => st_q (vA #[vI .i64 x.g, vI .i64 x.kind, vI .i64 x.site.f, vI .i64 x.site.pc, vI .u32 x.addr, vI .i64 x.child, vI .i64 x.obj, vI .i64 x.n, vI .i64 x.trap]) hA hW.cls (rl b1 0 3) fun ac hA => st_s hA (Runs.callN (v := vI .i64 x.obj) (fun _ => by kernel_rfl) hW (e_pobj1 x w63) ?_); clear hA ac hW; intro w64 hW hfw64 ac hA
   refine st_p (vI .i64 x.obj) hA ?_; clear hA ac; intro ac hA
   refine wn <| wp_seq <| wr <| st_p (vI .i64 x.obj) hA fun ac hA => st_p (pA b61 0) hA fun ac hA => st_q (vI .i64 0) hA hW.cls (rl b61 0 0) fun ac hA => st_p (vB (decide ((x.obj : Int) < (0 : Int)))) hA fun ac hA => st_p (vB (decide ((x.obj : Int) < (0 : Int)))) hA fun ac hA => ?_
   rcases Bool.eq_false_or_eq_true (decide ((x.obj : Int) < (0 : Int))) with h65 | h65
   ·
    rw [h65] at hA
    have h65 := of_decide_eq_true h65
    refine st_k hA fun ac hA => st_k hA fun ac hA => st_k hA fun ac hA => st_k hA fun ac hA => st_p (vB true) hA fun ac hA => wn <| wp_cond_true (hA.eval (by kernel_rfl)) <| wr <| st_p (vB false) hA ?_; clear hA ac; intro ac hA
    refine wn <| wp_ret <| thenR <| blkR <| thenR <| thenR <| blkR <| thenR <| r1 (vB false) hA ?_
    clear hA
    exact ⟨retv (congrArg vB (decide_eq_false (by unfold EvOk; omega)).symm), hW.fr⟩
   rw [h65] at hA
   have h65 := of_decide_eq_false h65
   refine st_p (vI .i64 x.obj) hA fun ac hA => st_p (pA b61 1) hA fun ac hA => st_q (vI .i64 63) hA hW.cls (rl b61 1 0) fun ac hA => st_p (vB (decide ((x.obj : Int) > (63 : Int)))) hA fun ac hA => st_p (vB (decide ((x.obj : Int) > (63 : Int)))) hA fun ac hA => wn <| wp_cond_split (t := decide ((x.obj : Int) > (63 : Int))) (hA.eval (by kernel_rfl)) (fun h66 => ?_) (fun h66 => ?_)
   ·
    have h66 := of_decide_eq_true h66
    refine wr <| st_p (vB false) hA ?_; clear hA ac; intro ac hA
    refine wn <| wp_ret <| thenR <| blkR <| thenR <| thenR <| blkR <| thenR <| r1 (vB false) hA ?_
    clear hA
    exact ⟨retv (congrArg vB (decide_eq_false (by unfold EvOk; omega)).symm), hW.fr⟩
   have h66 := of_decide_eq_false h66
   refine wp_skip <| thenN ?_
   have hW : Ws w No [EvR b17 (⟨x.g, x.kind, x.site, 0, 0, 0, 0, 0⟩ : Event), Cel b61 #[vI .i64 0, vI .i64 63, vI .i64 1, vF (.func 168) #[] #[], vF (.func 169) #[] #[], vF (.func 170) #[] #[]] 267, PcObjCount n9, Cel b1 #[vI .i64 x.g, vI .i64 x.kind, vI .i64 x.site.f, vI .i64 x.site.pc, vI .u32 x.addr, vI .i64 x.child, vI .i64 x.obj, vI .i64 x.n, vI .i64 x.trap] 43] [] w64 := Ws.pack (hW.pick [2, 0, 1, 3] (by decide) rfl)
   refine wp_region_lit <| st_p (pA b61 4) hA fun ac hA => st_q (vF (.func 169) #[] #[]) hA hW.cls (rl b61 4 1) fun ac hA => st_p (vI .i64 x.obj) hA fun ac hA => st_s hA (Runs.call (fun _ => by kernel_rfl) (e_pobj2 b17 (⟨x.g, x.kind, x.site, 0, 0, 0, 0, 0⟩ : Event) (x.obj) w64 ((hW).get 0 rfl) ((hW).lt _ (List.mem_of_getElem? (i := 0) rfl)) (by first | omega | assumption)) ?_)
   rintro _ w67 ⟨rfl, hu_⟩; refine ⟨_, rfl, ?_⟩; replace hW := hW.upd (H' := [EvR b17 (⟨(⟨x.g, x.kind, x.site, 0, 0, 0, 0, 0⟩ : Event).g, (⟨x.g, x.kind, x.site, 0, 0, 0, 0, 0⟩ : Event).kind, (⟨x.g, x.kind, x.site, 0, 0, 0, 0, 0⟩ : Event).site, (⟨x.g, x.kind, x.site, 0, 0, 0, 0, 0⟩ : Event).addr, (⟨x.g, x.kind, x.site, 0, 0, 0, 0, 0⟩ : Event).child, (x.obj), (⟨x.g, x.kind, x.site, 0, 0, 0, 0, 0⟩ : Event).n, (⟨x.g, x.kind, x.site, 0, 0, 0, 0, 0⟩ : Event).trap⟩ : Event), Cel b61 #[vI .i64 0, vI .i64 63, vI .i64 1, vF (.func 168) #[] #[], vF (.func 169) #[] #[], vF (.func 170) #[] #[]] 267, PcObjCount n9, Cel b1 #[vI .i64 x.g, vI .i64 x.kind, vI .i64 x.site.f, vI .i64 x.site.pc, vI .u32 x.addr, vI .i64 x.child, vI .i64 x.obj, vI .i64 x.n, vI .i64 x.trap] 43]) 0 rfl hu_ rfl; clear hA ac; intro ac hA
   refine wpList_nil <| blkN <| thenN <| wp_region_lit <| st_q (vI .i64 1) hA hW.cls (Rd.pureE (v0 := vI .i64 (IntKind.i64.wrap ((0 : Int) + 1))) (fun _ => by kernel_rfl) (congrArg (vI .i64) ((w_i64 (x := (0 : Int) + 1) (by omega) (by omega)).trans (by omega)))) fun ac hA => st_p (vI .i64 1) hA fun ac hA => wn ?_
   rw [rounds_succ]
   refine wr <| st_p (vB true) hA ?_; clear hA ac; intro ac hA
   refine wn <| wp_seq <| wp_cond_true (hA.eval (by kernel_rfl)) <| wp_skip <| thenN <| wp_seq <| wp_block <| wr <| st_p (pA n9 6) hA fun ac hA => st_q (vA #[vI .i64 (-2147483648), vI .i64 2147483647, vI .i64 4, vF (.func 175) #[] #[], vF (.func 176) #[] #[], vF (.func 170) #[] #[]]) hA hW.cls (rl n9 6 2) fun ac hA => st_s hA (Runs.cells (fun b => pA b 0) #[vI .i64 0, vI .i64 0, vI .i64 0, Value.nilFunc, Value.nilFunc, Value.nilFunc] 267 (fun _ => by kernel_rfl) hW ?_); clear hA ac hW; intro b68 w69 hW hb68 hfw69 ac hA
   refine st_s hA (Runs.store (v := vA #[vI .i64 (-2147483648), vI .i64 2147483647, vI .i64 4, vF (.func 175) #[] #[], vF (.func 176) #[] #[], vF (.func 170) #[] #[]]) (b := b68) (j := 0) (n := 6) (cs' := #[vI .i64 (-2147483648), vI .i64 2147483647, vI .i64 4, vF (.func 175) #[] #[], vF (.func 176) #[] #[], vF (.func 170) #[] #[]]) (H' := [Cel b68 #[vI .i64 (-2147483648), vI .i64 2147483647, vI .i64 4, vF (.func 175) #[] #[], vF (.func 176) #[] #[], vF (.func 170) #[] #[]] 267, EvR b17 (⟨(⟨x.g, x.kind, x.site, 0, 0, 0, 0, 0⟩ : Event).g, (⟨x.g, x.kind, x.site, 0, 0, 0, 0, 0⟩ : Event).kind, (⟨x.g, x.kind, x.site, 0, 0, 0, 0, 0⟩ : Event).site, (⟨x.g, x.kind, x.site, 0, 0, 0, 0, 0⟩ : Event).addr, (⟨x.g, x.kind, x.site, 0, 0, 0, 0, 0⟩ : Event).child, (x.obj), (⟨x.g, x.kind, x.site, 0, 0, 0, 0, 0⟩ : Event).n, (⟨x.g, x.kind, x.site, 0, 0, 0, 0, 0⟩ : Event).trap⟩ : Event), Cel b61 #[vI .i64 0, vI .i64 63, vI .i64 1, vF (.func 168) #[] #[], vF (.func 169) #[] #[], vF (.func 170) #[] #[]] 267, PcObjCount n9, Cel b1 #[vI .i64 x.g, vI .i64 x.kind, vI .i64 x.site.f, vI .i64 x.site.pc, vI .u32 x.addr, vI .i64 x.child, vI .i64 x.obj, vI .i64 x.n, vI .i64 x.trap] 43]) (by kernel_rfl) (by kernel_rfl) (by kernel_rfl) (by kernel_rfl) (by kernel_rfl) hW 0 (by rfl) (Nat.le_of_ble_eq_true (by kernel_rfl)) (by kernel_rfl) (by rfl) ?_); clear hA ac hW; intro w70 hW ac hA
   refine wn <| wr <| st_p (pA b68 3) hA fun ac hA => st_q (vF (.func 175) #[] #[]) hA hW.cls (rl b68 3 0) fun ac hA => st_q (vA #[vI .i64 x.g, vI .i64 x.kind, vI .i64 x.site.f, vI .i64 x.site.pc, vI .u32 x.addr, vI .i64 x.child, vI .i64 x.obj, vI .i64 x.n, vI .i64 x.trap]) hA hW.cls (rl b1 0 4) fun ac hA => st_s hA (Runs.callN (v := vI .i64 x.n) (fun _ => by kernel_rfl) hW (e_pcount1 x w70) ?_); clear hA ac hW; intro w71 hW hfw71 ac hA
   refine st_p (vI .i64 x.n) hA ?_; clear hA ac; intro ac hA
   refine wn <| wp_seq <| wr <| st_p (vI .i64 x.n) hA fun ac hA => st_p (pA b68 0) hA fun ac hA => st_q (vI .i64 (-2147483648)) hA hW.cls (rl b68 0 0) fun ac hA => st_p (vB (decide ((x.n : Int) < (-2147483648 : Int)))) hA fun ac hA => st_p (vB (decide ((x.n : Int) < (-2147483648 : Int)))) hA fun ac hA => ?_
   rcases Bool.eq_false_or_eq_true (decide ((x.n : Int) < (-2147483648 : Int))) with h72 | h72
   ·
    rw [h72] at hA
    have h72 := of_decide_eq_true h72
    refine st_k hA fun ac hA => st_k hA fun ac hA => st_k hA fun ac hA => st_k hA fun ac hA => st_p (vB true) hA fun ac hA => wn <| wp_cond_true (hA.eval (by kernel_rfl)) <| wr <| st_p (vB false) hA ?_; clear hA ac; intro ac hA
    refine wn <| wp_ret <| thenR <| blkR <| thenR <| thenR <| blkR <| thenR <| r1 (vB false) hA ?_
    clear hA
    exact ⟨retv (congrArg vB (decide_eq_false (by unfold EvOk; omega)).symm), hW.fr⟩
   rw [h72] at hA
   have h72 := of_decide_eq_false h72
   refine st_p (vI .i64 x.n) hA fun ac hA => st_p (pA b68 1) hA fun ac hA => st_q (vI .i64 2147483647) hA hW.cls (rl b68 1 0) fun ac hA => st_p (vB (decide ((x.n : Int) > (2147483647 : Int)))) hA fun ac hA => st_p (vB (decide ((x.n : Int) > (2147483647 : Int)))) hA fun ac hA => wn <| wp_cond_split (t := decide ((x.n : Int) > (2147483647 : Int))) (hA.eval (by kernel_rfl)) (fun h73 => ?_) (fun h73 => ?_)
   ·
    have h73 := of_decide_eq_true h73
    refine wr <| st_p (vB false) hA ?_; clear hA ac; intro ac hA
    refine wn <| wp_ret <| thenR <| blkR <| thenR <| thenR <| blkR <| thenR <| r1 (vB false) hA ?_
    clear hA
    exact ⟨retv (congrArg vB (decide_eq_false (by unfold EvOk; omega)).symm), hW.fr⟩
   have h73 := of_decide_eq_false h73
   refine wp_skip <| thenN <| wp_region_lit <| st_p (pA b68 4) hA fun ac hA => st_q (vF (.func 176) #[] #[]) hA hW.cls (rl b68 4 0) fun ac hA => st_p (vI .i64 x.n) hA fun ac hA => st_s hA (Runs.call (fun _ => by kernel_rfl) (e_pcount2 b17 (⟨(⟨x.g, x.kind, x.site, 0, 0, 0, 0, 0⟩ : Event).g, (⟨x.g, x.kind, x.site, 0, 0, 0, 0, 0⟩ : Event).kind, (⟨x.g, x.kind, x.site, 0, 0, 0, 0, 0⟩ : Event).site, (⟨x.g, x.kind, x.site, 0, 0, 0, 0, 0⟩ : Event).addr, (⟨x.g, x.kind, x.site, 0, 0, 0, 0, 0⟩ : Event).child, (x.obj), (⟨x.g, x.kind, x.site, 0, 0, 0, 0, 0⟩ : Event).n, (⟨x.g, x.kind, x.site, 0, 0, 0, 0, 0⟩ : Event).trap⟩ : Event) (x.n) w71 ((hW).get 1 rfl) ((hW).lt _ (List.mem_of_getElem? (i := 1) rfl)) (by first | omega | assumption)) ?_)
   rintro _ w74 ⟨rfl, hu_⟩; refine ⟨_, rfl, ?_⟩; replace hW := hW.upd (H' := [Cel b68 #[vI .i64 (-2147483648), vI .i64 2147483647, vI .i64 4, vF (.func 175) #[] #[], vF (.func 176) #[] #[], vF (.func 170) #[] #[]] 267, EvR b17 (⟨(⟨(⟨x.g, x.kind, x.site, 0, 0, 0, 0, 0⟩ : Event).g, (⟨x.g, x.kind, x.site, 0, 0, 0, 0, 0⟩ : Event).kind, (⟨x.g, x.kind, x.site, 0, 0, 0, 0, 0⟩ : Event).site, (⟨x.g, x.kind, x.site, 0, 0, 0, 0, 0⟩ : Event).addr, (⟨x.g, x.kind, x.site, 0, 0, 0, 0, 0⟩ : Event).child, (x.obj), (⟨x.g, x.kind, x.site, 0, 0, 0, 0, 0⟩ : Event).n, (⟨x.g, x.kind, x.site, 0, 0, 0, 0, 0⟩ : Event).trap⟩ : Event).g, (⟨(⟨x.g, x.kind, x.site, 0, 0, 0, 0, 0⟩ : Event).g, (⟨x.g, x.kind, x.site, 0, 0, 0, 0, 0⟩ : Event).kind, (⟨x.g, x.kind, x.site, 0, 0, 0, 0, 0⟩ : Event).site, (⟨x.g, x.kind, x.site, 0, 0, 0, 0, 0⟩ : Event).addr, (⟨x.g, x.kind, x.site, 0, 0, 0, 0, 0⟩ : Event).child, (x.obj), (⟨x.g, x.kind, x.site, 0, 0, 0, 0, 0⟩ : Event).n, (⟨x.g, x.kind, x.site, 0, 0, 0, 0, 0⟩ : Event).trap⟩ : Event).kind, (⟨(⟨x.g, x.kind, x.site, 0, 0, 0, 0, 0⟩ : Event).g, (⟨x.g, x.kind, x.site, 0, 0, 0, 0, 0⟩ : Event).kind, (⟨x.g, x.kind, x.site, 0, 0, 0, 0, 0⟩ : Event).site, (⟨x.g, x.kind, x.site, 0, 0, 0, 0, 0⟩ : Event).addr, (⟨x.g, x.kind, x.site, 0, 0, 0, 0, 0⟩ : Event).child, (x.obj), (⟨x.g, x.kind, x.site, 0, 0, 0, 0, 0⟩ : Event).n, (⟨x.g, x.kind, x.site, 0, 0, 0, 0, 0⟩ : Event).trap⟩ : Event).site, (⟨(⟨x.g, x.kind, x.site, 0, 0, 0, 0, 0⟩ : Event).g, (⟨x.g, x.kind, x.site, 0, 0, 0, 0, 0⟩ : Event).kind, (⟨x.g, x.kind, x.site, 0, 0, 0, 0, 0⟩ : Event).site, (⟨x.g, x.kind, x.site, 0, 0, 0, 0, 0⟩ : Event).addr, (⟨x.g, x.kind, x.site, 0, 0, 0, 0, 0⟩ : Event).child, (x.obj), (⟨x.g, x.kind, x.site, 0, 0, 0, 0, 0⟩ : Event).n, (⟨x.g, x.kind, x.site, 0, 0, 0, 0, 0⟩ : Event).trap⟩ : Event).addr, (⟨(⟨x.g, x.kind, x.site, 0, 0, 0, 0, 0⟩ : Event).g, (⟨x.g, x.kind, x.site, 0, 0, 0, 0, 0⟩ : Event).kind, (⟨x.g, x.kind, x.site, 0, 0, 0, 0, 0⟩ : Event).site, (⟨x.g, x.kind, x.site, 0, 0, 0, 0, 0⟩ : Event).addr, (⟨x.g, x.kind, x.site, 0, 0, 0, 0, 0⟩ : Event).child, (x.obj), (⟨x.g, x.kind, x.site, 0, 0, 0, 0, 0⟩ : Event).n, (⟨x.g, x.kind, x.site, 0, 0, 0, 0, 0⟩ : Event).trap⟩ : Event).child, (⟨(⟨x.g, x.kind, x.site, 0, 0, 0, 0, 0⟩ : Event).g, (⟨x.g, x.kind, x.site, 0, 0, 0, 0, 0⟩ : Event).kind, (⟨x.g, x.kind, x.site, 0, 0, 0, 0, 0⟩ : Event).site, (⟨x.g, x.kind, x.site, 0, 0, 0, 0, 0⟩ : Event).addr, (⟨x.g, x.kind, x.site, 0, 0, 0, 0, 0⟩ : Event).child, (x.obj), (⟨x.g, x.kind, x.site, 0, 0, 0, 0, 0⟩ : Event).n, (⟨x.g, x.kind, x.site, 0, 0, 0, 0, 0⟩ : Event).trap⟩ : Event).obj, (x.n), (⟨(⟨x.g, x.kind, x.site, 0, 0, 0, 0, 0⟩ : Event).g, (⟨x.g, x.kind, x.site, 0, 0, 0, 0, 0⟩ : Event).kind, (⟨x.g, x.kind, x.site, 0, 0, 0, 0, 0⟩ : Event).site, (⟨x.g, x.kind, x.site, 0, 0, 0, 0, 0⟩ : Event).addr, (⟨x.g, x.kind, x.site, 0, 0, 0, 0, 0⟩ : Event).child, (x.obj), (⟨x.g, x.kind, x.site, 0, 0, 0, 0, 0⟩ : Event).n, (⟨x.g, x.kind, x.site, 0, 0, 0, 0, 0⟩ : Event).trap⟩ : Event).trap⟩ : Event), Cel b61 #[vI .i64 0, vI .i64 63, vI .i64 1, vF (.func 168) #[] #[], vF (.func 169) #[] #[], vF (.func 170) #[] #[]] 267, PcObjCount n9, Cel b1 #[vI .i64 x.g, vI .i64 x.kind, vI .i64 x.site.f, vI .i64 x.site.pc, vI .u32 x.addr, vI .i64 x.child, vI .i64 x.obj, vI .i64 x.n, vI .i64 x.trap] 43]) 1 rfl hu_ rfl; clear hA ac; intro ac hA
   refine wpList_nil <| blkN <| thenN <| wp_region_lit <| st_q (vI .i64 2) hA hW.cls (Rd.pureE (v0 := vI .i64 (IntKind.i64.wrap ((1 : Int) + 1))) (fun _ => by kernel_rfl) (congrArg (vI .i64) ((w_i64 (x := (1 : Int) + 1) (by omega) (by omega)).trans (by omega)))) fun ac hA => st_p (vI .i64 2) hA fun ac hA => wn ?_
   rw [rounds_succ]
   refine wr <| st_p (vB false) hA ?_; clear hA ac; intro ac hA
   refine wn <| wp_seq <| wp_cond_false (hA.eval (by kernel_rfl)) <| wp_exit <| thenX <| thenX <| blkX <| thenN <| wp_seq ?_
   have hW : Ws w No [Cel b17 #[vI .i64 x.g, vI .i64 x.kind, vI .i64 x.site.f, vI .i64 x.site.pc, vI .u32 0, vI .i64 0, vI .i64 (x.obj), vI .i64 (x.n), vI .i64 0] 43, Cel b68 #[vI .i64 (-2147483648), vI .i64 2147483647, vI .i64 4, vF (.func 175) #[] #[], vF (.func 176) #[] #[], vF (.func 170) #[] #[]] 267, Cel b61 #[vI .i64 0, vI .i64 63, vI .i64 1, vF (.func 168) #[] #[], vF (.func 169) #[] #[], vF (.func 170) #[] #[]] 267, PcObjCount n9, Cel b1 #[vI .i64 x.g, vI .i64 x.kind, vI .i64 x.site.f, vI .i64 x.site.pc, vI .u32 x.addr, vI .i64 x.child, vI .i64 x.obj, vI .i64 x.n, vI .i64 x.trap] 43] [] w74 := Ws.unpack (hW.pick [1, 0, 2, 3, 4] (by decide) rfl)
   refine wp_region_lit <| st_q (vA #[vI .i64 x.g, vI .i64 x.kind, vI .i64 x.site.f, vI .i64 x.site.pc, vI .u32 0, vI .i64 0, vI .i64 (x.obj), vI .i64 (x.n), vI .i64 0]) hA hW.cls (rl b17 0 0) fun ac hA => st_q (vA #[vI .i64 x.g, vI .i64 x.kind, vI .i64 x.site.f, vI .i64 x.site.pc, vI .u32 x.addr, vI .i64 x.child, vI .i64 x.obj, vI .i64 x.n, vI .i64 x.trap]) hA hW.cls (rl b1 0 4) fun ac hA => st_q (vB (decide ((⟨x.g, x.kind, x.site, 0, 0, (x.obj), (x.n), 0⟩ : Event) = x))) hA hW.cls (Rd.eqS (u := (⟨x.g, x.kind, x.site, 0, 0, (x.obj), (x.n), 0⟩ : Event).v) (v := x.v) (by kernel_rfl) (by kernel_rfl) rfl rfl (by kernel_rfl) (fun w => eq_Event w (⟨x.g, x.kind, x.site, 0, 0, (x.obj), (x.n), 0⟩ : Event) x)) fun ac hA => st_p (vB (decide ((⟨x.g, x.kind, x.site, 0, 0, (x.obj), (x.n), 0⟩ : Event) = x))) hA fun ac hA => ?_
   rcases Bool.eq_false_or_eq_true (decide ((⟨x.g, x.kind, x.site, 0, 0, (x.obj), (x.n), 0⟩ : Event) = x)) with h75 | h75
   ·
    rw [h75] at hA
    have h75 := of_decide_eq_true h75
    have h75e := (Event.eqi _ _).1 h75
    refine st_p (pA b1 1) hA fun ac hA => st_q (vI .i64 x.kind) hA hW.cls (rl b1 1 4) fun ac hA => st_p (vB ((x.kind : Int) != (4 : Int))) hA fun ac hA => st_p (vB ((x.kind : Int) != (4 : Int))) hA fun ac hA => ?_
    rcases Bool.eq_false_or_eq_true ((x.kind : Int) != (4 : Int)) with h76 | h76
    ·
     rw [h76] at hA
     have h76 := bne_iff_ne.1 h76
     refine st_k hA fun ac hA => st_k hA fun ac hA => st_k hA fun ac hA => st_k hA fun ac hA => st_k hA fun ac hA => st_p (vB true) hA fun ac hA => st_p (vB true) hA fun ac hA => st_p (vB true) hA fun ac hA => wn <| wp_ret <| r1 (vB true) hA ?_
     clear hA
     dsimp only at h75e
     exact ⟨retv (congrArg vB (decide_eq_true (by unfold EvOk; omega)).symm), hW.fr⟩
    rw [h76] at hA
    have h76 := of_bne_f h76
    exfalso; clear hA hW; omega
   rw [h75] at hA
   have h75 := of_decide_eq_false h75
   have h75e := fun e => h75 ((Event.eqi _ _).2 e)
   refine st_k hA fun ac hA => st_k hA fun ac hA => st_k hA fun ac hA => st_k hA fun ac hA => st_k hA fun ac hA => st_k hA fun ac hA => st_k hA fun ac hA => st_k hA fun ac hA => st_k hA fun ac hA => st_k hA fun ac hA => st_p (vB false) hA fun ac hA => st_p (vB false) hA fun ac hA => wn <| wp_ret <| r1 (vB false) hA ?_
   clear hA
   dsimp only at h75e
   replace h75e : ¬ _ := h75e
   exact ⟨retv (congrArg vB (decide_eq_false (by unfold EvOk; omega)).symm), hW.fr⟩
  have h60 := of_decide_eq_false h60
  rcases Bool.eq_false_or_eq_true (decide (x.kind = 14)) with h77 | h77
  ·
   have h77 := of_decide_eq_true h77
   rw [named_t (by omega)] at hA
   have hW : Ws w No [PcObj n5, PcAddr n6, PcAddr n7, PcChild n8, PcObjCount n9, PcTrap n10, PcNo n11, PcNo n12, Cel b17 #[vI .i64 x.g, vI .i64 x.kind, vI .i64 x.site.f, vI .i64 x.site.pc, vI .u32 0, vI .i64 0, vI .i64 0, vI .i64 0, vI .i64 0] 43, Cel b1 #[vI .i64 x.g, vI .i64 x.kind, vI .i64 x.site.f, vI .i64 x.site.pc, vI .u32 x.addr, vI .i64 x.child, vI .i64 x.obj, vI .i64 x.n, vI .i64 x.trap] 43] [] w19 := Ws.unpack (hW.pick [1, 0, 2] (by decide) rfl)
   have hW : Ws w No [PcTrap n10, Cel b17 #[vI .i64 x.g, vI .i64 x.kind, vI .i64 x.site.f, vI .i64 x.site.pc, vI .u32 0, vI .i64 0, vI .i64 0, vI .i64 0, vI .i64 0] 43, Cel b1 #[vI .i64 x.g, vI .i64 x.kind, vI .i64 x.site.f, vI .i64 x.site.pc, vI .u32 x.addr, vI .i64 x.child, vI .i64 x.obj, vI .i64 x.n, vI .i64 x.trap] 43] [] w19 := hW.pick [5, 8, 9] (by decide) rfl
   refine wp_region_lit <| st_p (vS (some ⟨n10, 0, none⟩) 1 1) hA fun ac hA => st_p (vI .i64 1) hA fun ac hA => st_p (vI .i64 0) hA fun ac hA => wn <| wp_block <| wp_loop_rounds 3 ?_
   rw [rounds_succ]
   refine wr <| st_p (vB true) hA ?_; clear hA ac; intro ac hA
   refine wn <| wp_seq <| wp_cond_true (hA.eval (by kernel_rfl)) <| wp_skip <| thenN <| wp_seq <| wp_block <| wr <| st_p (pA n10 0) hA fun ac hA => st_q (vA #[vI .i64 1, vI .i64 6, vI .i64 1, vF (.func 177) #[] #[], vF (.func 178) #[] #[], vF (.func 179) #[] #[]]) hA hW.cls (rl n10 0 0) fun ac hA => st_s hA (Runs.cells (fun b => pA b 0) #[vI .i64 0, vI .i64 0, vI .i64 0, Value.nilFunc, Value.nilFunc, Value.nilFunc] 267 (fun _ => by kernel_rfl) hW ?_); clear hA ac hW; intro b78 w79 hW hb78 hfw79 ac hA
   refine st_s hA (Runs.store (v := vA #[vI .i64 1, vI .i64 6, vI .i64 1, vF (.func 177) #[] #[], vF (.func 178) #[] #[], vF (.func 179) #[] #[]]) (b := b78) (j := 0) (n := 6) (cs' := #[vI .i64 1, vI .i64 6, vI .i64 1, vF (.func 177) #[] #[], vF (.func 178) #[] #[], vF (.func 179) #[] #[]]) (H' := [Cel b78 #[vI .i64 1, vI .i64 6, vI .i64 1, vF (.func 177) #[] #[], vF (.func 178) #[] #[], vF (.func 179) #[] #[]] 267, PcTrap n10, Cel b17 #[vI .i64 x.g, vI .i64 x.kind, vI .i64 x.site.f, vI .i64 x.site.pc, vI .u32 0, vI .i64 0, vI .i64 0, vI .i64 0, vI .i64 0] 43, Cel b1 #[vI .i64 x.g, vI .i64 x.kind, vI .i64 x.site.f, vI .i64 x.site.pc, vI .u32 x.addr, vI .i64 x.child, vI .i64 x.obj, vI .i64 x.n, vI .i64 x.trap] 43]) (by kernel_rfl) (by kernel_rfl) (by kernel_rfl) (by kernel_rfl) (by kernel_rfl) hW 0 (by rfl) (Nat.le_of_ble_eq_true (by kernel_rfl)) (by kernel_rfl) (by rfl) ?_); clear hA ac hW; intro w80 hW ac hA
   refine wn <| wr <| st_p (pA b78 3) hA fun ac hA => st_q (vF (.func 177) #[] #[]) hA hW.cls (rl b78 3 0) fun ac hA => st_q (vA #[vI .i64 x.g, vI .i64 x.kind, vI .i64 x.site.f, vI .i64 x.site.pc, vI .u32 x.addr, vI .i64 x.child, vI .i64 x.obj, vI .i64 x.n, vI .i64 x.trap]) hA hW.cls (rl b1 0 3) fun ac hA => st_s hA (Runs.callN (v := vI .i64 x.trap) (fun _ => by kernel_rfl) hW (e_ptrap1 x w80) ?_); clear hA ac hW; intro w81 hW hfw81 ac hA
   refine st_p (vI .i64 x.trap) hA ?_; clear hA ac; intro ac hA
   refine wn <| wp_seq <| wr <| st_p (vI .i64 x.trap) hA fun ac hA => st_p (pA b78 0) hA fun ac hA => st_q (vI .i64 1) hA hW.cls (rl b78 0 0) fun ac hA => st_p (vB (decide ((x.trap : Int) < (1 : Int)))) hA fun ac hA => st_p (vB (decide ((x.trap : Int) < (1 : Int)))) hA fun ac hA => ?_
   rcases Bool.eq_false_or_eq_true (decide ((x.trap : Int) < (1 : Int))) with h82 | h82
   ·
    rw [h82] at hA
    have h82 := of_decide_eq_true h82
    refine st_k hA fun ac hA => st_k hA fun ac hA => st_k hA fun ac hA => st_k hA fun ac hA => st_p (vB true) hA fun ac hA => wn <| wp_cond_true (hA.eval (by kernel_rfl)) <| wr <| st_p (vB false) hA ?_; clear hA ac; intro ac hA
    refine wn <| wp_ret <| thenR <| blkR <| thenR <| thenR <| blkR <| thenR <| r1 (vB false) hA ?_
    clear hA
    exact ⟨retv (congrArg vB (decide_eq_false (by unfold EvOk; omega)).symm), hW.fr⟩
   rw [h82] at hA
   have h82 := of_decide_eq_false h82
   refine st_p (vI .i64 x.trap) hA fun ac hA => st_p (pA b78 1) hA fun ac hA => st_q (vI .i64 6) hA hW.cls (rl b78 1 0) fun ac hA => st_p (vB (decide ((x.trap : Int) > (6 : Int)))) hA fun ac hA => st_p (vB (decide ((x.trap : Int) > (6 : Int)))) hA fun ac hA => wn <| wp_cond_split (t := decide ((x.trap : Int) > (6 : Int))) (hA.eval (by kernel_rfl)) (fun h83 => ?_) (fun h83 => ?_)
   ·
    have h83 := of_decide_eq_true h83
    refine wr <| st_p (vB false) hA ?_; clear hA ac; intro ac hA
    refine wn <| wp_ret <| thenR <| blkR <| thenR <| thenR <| blkR <| thenR <| r1 (vB false) hA ?_
    clear hA
    exact ⟨retv (congrArg vB (decide_eq_false (by unfold EvOk; omega)).symm), hW.fr⟩
   have h83 := of_decide_eq_false h83
   refine wp_skip <| thenN ?_
   have hW : Ws w No [EvR b17 (⟨x.g, x.kind, x.site, 0, 0, 0, 0, 0⟩ : Event), Cel b78 #[vI .i64 1, vI .i64 6, vI .i64 1, vF (.func 177) #[] #[], vF (.func 178) #[] #[], vF (.func 179) #[] #[]] 267, PcTrap n10, Cel b1 #[vI .i64 x.g, vI .i64 x.kind, vI .i64 x.site.f, vI .i64 x.site.pc, vI .u32 x.addr, vI .i64 x.child, vI .i64 x.obj, vI .i64 x.n, vI .i64 x.trap] 43] [] w81 := Ws.pack (hW.pick [2, 0, 1, 3] (by decide) rfl)
   refine wp_region_lit <| st_p (pA b78 4) hA fun ac hA => st_q (vF (.func 178) #[] #[]) hA hW.cls (rl b78 4 1) fun ac hA => st_p (vI .i64 x.trap) hA fun ac hA => st_s hA (Runs.call (fun _ => by kernel_rfl) (e_ptrap2 b17 (⟨x.g, x.kind, x.site, 0, 0, 0, 0, 0⟩ : Event) (x.trap) w81 ((hW).get 0 rfl) ((hW).lt _ (List.mem_of_getElem? (i := 0) rfl)) (by first | omega | assumption)) ?_)
   rintro _ w84 ⟨rfl, hu_⟩; refine ⟨_, rfl, ?_⟩; replace hW := hW.upd (H' := [EvR b17 (⟨(⟨x.g, x.kind, x.site, 0, 0, 0, 0, 0⟩ : Event).g, (⟨x.g, x.kind, x.site, 0, 0, 0, 0, 0⟩ : Event).kind, (⟨x.g, x.kind, x.site, 0, 0, 0, 0, 0⟩ : Event).site, (⟨x.g, x.kind, x.site, 0, 0, 0, 0, 0⟩ : Event).addr, (⟨x.g, x.kind, x.site, 0, 0, 0, 0, 0⟩ : Event).child, (⟨x.g, x.kind, x.site, 0, 0, 0, 0, 0⟩ : Event).obj, (⟨x.g, x.kind, x.site, 0, 0, 0, 0, 0⟩ : Event).n, (x.trap)⟩ : Event), Cel b78 #[vI .i64 1, vI .i64 6, vI .i64 1, vF (.func 177) #[] #[], vF (.func 178) #[] #[], vF (.func 179) #[] #[]] 267, PcTrap n10, Cel b1 #[vI .i64 x.g, vI .i64 x.kind, vI .i64 x.site.f, vI .i64 x.site.pc, vI .u32 x.addr, vI .i64 x.child, vI .i64 x.obj, vI .i64 x.n, vI .i64 x.trap] 43]) 0 rfl hu_ rfl; clear hA ac; intro ac hA
   refine wpList_nil <| blkN <| thenN <| wp_region_lit <| st_q (vI .i64 1) hA hW.cls (Rd.pureE (v0 := vI .i64 (IntKind.i64.wrap ((0 : Int) + 1))) (fun _ => by kernel_rfl) (congrArg (vI .i64) ((w_i64 (x := (0 : Int) + 1) (by omega) (by omega)).trans (by omega)))) fun ac hA => st_p (vI .i64 1) hA fun ac hA => wn ?_
   rw [rounds_succ]
   refine wr <| st_p (vB false) hA ?_; clear hA ac; intro ac hA
   refine wn <| wp_seq <| wp_cond_false (hA.eval (by kernel_rfl)) <| wp_exit <| thenX <| thenX <| blkX <| thenN <| wp_seq ?_
   have hW : Ws w No [Cel b17 #[vI .i64 x.g, vI .i64 x.kind, vI .i64 x.site.f, vI .i64 x.site.pc, vI .u32 0, vI .i64 0, vI .i64 0, vI .i64 0, vI .i64 (x.trap)] 43, Cel b78 #[vI .i64 1, vI .i64 6, vI .i64 1, vF (.func 177) #[] #[], vF (.func 178) #[] #[], vF (.func 179) #[] #[]] 267, PcTrap n10, Cel b1 #[vI .i64 x.g, vI .i64 x.kind, vI .i64 x.site.f, vI .i64 x.site.pc, vI .u32 x.addr, vI .i64 x.child, vI .i64 x.obj, vI .i64 x.n, vI .i64 x.trap] 43] [] w84 := Ws.unpack (hW.pick [0, 1, 2, 3] (by decide) rfl)
   refine wp_region_lit <| st_q (vA #[vI .i64 x.g, vI .i64 x.kind, vI .i64 x.site.f, vI .i64 x.site.pc, vI .u32 0, vI .i64 0, vI .i64 0, vI .i64 0, vI .i64 (x.trap)]) hA hW.cls (rl b17 0 0) fun ac hA => st_q (vA #[vI .i64 x.g, vI .i64 x.kind, vI .i64 x.site.f, vI .i64 x.site.pc, vI .u32 x.addr, vI .i64 x.child, vI .i64 x.obj, vI .i64 x.n, vI .i64 x.trap]) hA hW.cls (rl b1 0 3) fun ac hA => st_q (vB (decide ((⟨x.g, x.kind, x.site, 0, 0, 0, 0, (x.trap)⟩ : Event) = x))) hA hW.cls (Rd.eqS (u := (⟨x.g, x.kind, x.site, 0, 0, 0, 0, (x.trap)⟩ : Event).v) (v := x.v) (by kernel_rfl) (by kernel_rfl) rfl rfl (by kernel_rfl) (fun w => eq_Event w (⟨x.g, x.kind, x.site, 0, 0, 0, 0, (x.trap)⟩ : Event) x)) fun ac hA => st_p (vB (decide ((⟨x.g, x.kind, x.site, 0, 0, 0, 0, (x.trap)⟩ : Event) = x))) hA fun ac hA => ?_
   rcases Bool.eq_false_or_eq_true (decide ((⟨x.g, x.kind, x.site, 0, 0, 0, 0, (x.trap)⟩ : Event) = x)) with h85 | h85
   ·
    rw [h85] at hA
    have h85 := of_decide_eq_true h85
    have h85e := (Event.eqi _ _).1 h85
    refine st_p (pA b1 1) hA fun ac hA => st_q (vI .i64 x.kind) hA hW.cls (rl b1 1 3) fun ac hA => st_p (vB ((x.kind : Int) != (4 : Int))) hA fun ac hA => st_p (vB ((x.kind : Int) != (4 : Int))) hA fun ac hA => ?_
    rcases Bool.eq_false_or_eq_true ((x.kind : Int) != (4 : Int)) with h86 | h86
    ·
     rw [h86] at hA
     have h86 := bne_iff_ne.1 h86
     refine st_k hA fun ac hA => st_k hA fun ac hA => st_k hA fun ac hA => st_k hA fun ac hA => st_k hA fun ac hA => st_p (vB true) hA fun ac hA => st_p (vB true) hA fun ac hA => st_p (vB true) hA fun ac hA => wn <| wp_ret <| r1 (vB true) hA ?_
     clear hA
     dsimp only at h85e
     exact ⟨retv (congrArg vB (decide_eq_true (by unfold EvOk; omega)).symm), hW.fr⟩
    rw [h86] at hA
    have h86 := of_bne_f h86
    exfalso; clear hA hW; omega
   rw [h85] at hA
   have h85 := of_decide_eq_false h85
   have h85e := fun e => h85 ((Event.eqi _ _).2 e)
   refine st_k hA fun ac hA => st_k hA fun ac hA => st_k hA fun ac hA => st_k hA fun ac hA => st_k hA fun ac hA => st_k hA fun ac hA => st_k hA fun ac hA => st_k hA fun ac hA => st_k hA fun ac hA => st_k hA fun ac hA => st_p (vB false) hA fun ac hA => st_p (vB false) hA fun ac hA => wn <| wp_ret <| r1 (vB false) hA ?_
   clear hA
   dsimp only at h85e
   replace h85e : ¬ _ := h85e
   exact ⟨retv (congrArg vB (decide_eq_false (by unfold EvOk; omega)).symm), hW.fr⟩
  have h77 := of_decide_eq_false h77
  rcases Bool.eq_false_or_eq_true (decide (x.kind = 1)) with h87 | h87
  ·
   have h87 := of_decide_eq_true h87
   rw [named_e (by omega)] at hA
   have hW : Ws w No [PcObj n5, PcAddr n6, PcAddr n7, PcChild n8, PcObjCount n9, PcTrap n10, PcNo n11, PcNo n12, Cel b17 #[vI .i64 x.g, vI .i64 x.kind, vI .i64 x.site.f, vI .i64 x.site.pc, vI .u32 0, vI .i64 0, vI .i64 0, vI .i64 0, vI .i64 0] 43, Cel b1 #[vI .i64 x.g, vI .i64 x.kind, vI .i64 x.site.f, vI .i64 x.site.pc, vI .u32 x.addr, vI .i64 x.child, vI .i64 x.obj, vI .i64 x.n, vI .i64 x.trap] 43] [] w19 := Ws.unpack (hW.pick [1, 0, 2] (by decide) rfl)
   have hW : Ws w No [PcNo n11, Cel b17 #[vI .i64 x.g, vI .i64 x.kind, vI .i64 x.site.f, vI .i64 x.site.pc, vI .u32 0, vI .i64 0, vI .i64 0, vI .i64 0, vI .i64 0] 43, Cel b1 #[vI .i64 x.g, vI .i64 x.kind, vI .i64 x.site.f, vI .i64 x.site.pc, vI .u32 x.addr, vI .i64 x.child, vI .i64 x.obj, vI .i64 x.n, vI .i64 x.trap] 43] [] w19 := hW.pick [6, 8, 9] (by decide) rfl
   refine wp_region_lit <| st_p (vS (some ⟨n11, 0, none⟩) 0 0) hA fun ac hA => st_p (vI .i64 0) hA fun ac hA => st_p (vI .i64 0) hA fun ac hA => wn <| wp_block <| wp_loop_rounds 3 ?_
   rw [rounds_succ]
   refine wr <| st_p (vB false) hA ?_; clear hA ac; intro ac hA
   refine wn <| wp_seq <| wp_cond_false (hA.eval (by kernel_rfl)) <| wp_exit <| thenX <| thenX <| blkX <| thenN <| wr <| st_q (vA #[vI .i64 x.g, vI .i64 x.kind, vI .i64 x.site.f, vI .i64 x.site.pc, vI .u32 0, vI .i64 0, vI .i64 0, vI .i64 0, vI .i64 0]) hA hW.cls (rl b17 0 1) fun ac hA => st_q (vA #[vI .i64 x.g, vI .i64 x.kind, vI .i64 x.site.f, vI .i64 x.site.pc, vI .u32 x.addr, vI .i64 x.child, vI .i64 x.obj, vI .i64 x.n, vI .i64 x.trap]) hA hW.cls (rl b1 0 2) fun ac hA => st_q (vB (decide ((⟨x.g, x.kind, x.site, 0, 0, 0, 0, 0⟩ : Event) = x))) hA hW.cls (Rd.eqS (u := (⟨x.g, x.kind, x.site, 0, 0, 0, 0, 0⟩ : Event).v) (v := x.v) (by kernel_rfl) (by kernel_rfl) rfl rfl (by kernel_rfl) (fun w => eq_Event w (⟨x.g, x.kind, x.site, 0, 0, 0, 0, 0⟩ : Event) x)) fun ac hA => st_p (vB (decide ((⟨x.g, x.kind, x.site, 0, 0, 0, 0, 0⟩ : Event) = x))) hA fun ac hA => ?_
   rcases Bool.eq_false_or_eq_true (decide ((⟨x.g, x.kind, x.site, 0, 0, 0, 0, 0⟩ : Event) = x)) with h88 | h88
   ·
    rw [h88] at hA
    have h88 := of_decide_eq_true h88
    have h88e := (Event.eqi _ _).1 h88
    refine st_p (pA b1 1) hA fun ac hA => st_q (vI .i64 x.kind) hA hW.cls (rl b1 1 2) fun ac hA => st_p (vB ((x.kind : Int) != (4 : Int))) hA fun ac hA => st_p (vB ((x.kind : Int) != (4 : Int))) hA fun ac hA => ?_
    rcases Bool.eq_false_or_eq_true ((x.kind : Int) != (4 : Int)) with h89 | h89
    ·
     rw [h89] at hA
     have h89 := bne_iff_ne.1 h89
     refine st_k hA fun ac hA => st_k hA fun ac hA => st_k hA fun ac hA => st_k hA fun ac hA => st_k hA fun ac hA => st_p (vB true) hA fun ac hA => st_p (vB true) hA fun ac hA => st_p (vB true) hA fun ac hA => wn <| wp_ret <| r1 (vB true) hA ?_
     clear hA
     dsimp only at h88e
     exact ⟨retv (congrArg vB (decide_eq_true (by unfold EvOk; omega)).symm), hW.fr⟩
    rw [h89] at hA
    have h89 := of_bne_f h89
    exfalso; clear hA hW; omega
   rw [h88] at hA
   have h88 := of_decide_eq_false h88
   have h88e := fun e => h88 ((Event.eqi _ _).2 e)
   refine st_k hA fun ac hA => st_k hA fun ac hA => st_k hA fun ac hA => st_k hA fun ac hA => st_k hA fun ac hA => st_k hA fun ac hA => st_k hA fun ac hA => st_k hA fun ac hA => st_k hA fun ac hA => st_k hA fun ac hA => st_p (vB false) hA fun ac hA => st_p (vB false) hA fun ac hA => wn <| wp_ret <| r1 (vB false) hA ?_
   clear hA
   dsimp only at h88e
   replace h88e : ¬ _ := h88e
   exact ⟨retv (congrArg vB (decide_eq_false (by unfold EvOk; omega)).symm), hW.fr⟩
  have h87 := of_decide_eq_false h87
  rcases Bool.eq_false_or_eq_true (decide (x.kind = 13)) with h90 | h90
  ·
   have h90 := of_decide_eq_true h90
   rw [named_f (by omega)] at hA
   have hW : Ws w No [PcObj n5, PcAddr n6, PcAddr n7, PcChild n8, PcObjCount n9, PcTrap n10, PcNo n11, PcNo n12, Cel b17 #[vI .i64 x.g, vI .i64 x.kind, vI .i64 x.site.f, vI .i64 x.site.pc, vI .u32 0, vI .i64 0, vI .i64 0, vI .i64 0, vI .i64 0] 43, Cel b1 #[vI .i64 x.g, vI .i64 x.kind, vI .i64 x.site.f, vI .i64 x.site.pc, vI .u32 x.addr, vI .i64 x.child, vI .i64 x.obj, vI .i64 x.n, vI .i64 x.trap] 43] [] w19 := Ws.unpack (hW.pick [1, 0, 2] (by decide) rfl)
   have hW : Ws w No [PcNo n12, Cel b17 #[vI .i64 x.g, vI .i64 x.kind, vI .i64 x.site.f, vI .i64 x.site.pc, vI .u32 0, vI .i64 0, vI .i64 0, vI .i64 0, vI .i64 0] 43, Cel b1 #[vI .i64 x.g, vI .i64 x.kind, vI .i64 x.site.f, vI .i64 x.site.pc, vI .u32 x.addr, vI .i64 x.child, vI .i64 x.obj, vI .i64 x.n, vI .i64 x.trap] 43] [] w19 := hW.pick [7, 8, 9] (by decide) rfl
   refine wp_region_lit <| st_p (vS (some ⟨n12, 0, none⟩) 0 0) hA fun ac hA => st_p (vI .i64 0) hA fun ac hA => st_p (vI .i64 0) hA fun ac hA => wn <| wp_block <| wp_loop_rounds 3 ?_
   rw [rounds_succ]
   refine wr <| st_p (vB false) hA ?_; clear hA ac; intro ac hA
   refine wn <| wp_seq <| wp_cond_false (hA.eval (by kernel_rfl)) <| wp_exit <| thenX <| thenX <| blkX <| thenN <| wr <| st_q (vA #[vI .i64 x.g, vI .i64 x.kind, vI .i64 x.site.f, vI .i64 x.site.pc, vI .u32 0, vI .i64 0, vI .i64 0, vI .i64 0, vI .i64 0]) hA hW.cls (rl b17 0 1) fun ac hA => st_q (vA #[vI .i64 x.g, vI .i64 x.kind, vI .i64 x.site.f, vI .i64 x.site.pc, vI .u32 x.addr, vI .i64 x.child, vI .i64 x.obj, vI .i64 x.n, vI .i64 x.trap]) hA hW.cls (rl b1 0 2) fun ac hA => st_q (vB (decide ((⟨x.g, x.kind, x.site, 0, 0, 0, 0, 0⟩ : Event) = x))) hA hW.cls (Rd.eqS (u := (⟨x.g, x.kind, x.site, 0, 0, 0, 0, 0⟩ : Event).v) (v := x.v) (by kernel_rfl) (by kernel_rfl) rfl rfl (by kernel_rfl) (fun w => eq_Event w (⟨x.g, x.kind, x.site, 0, 0, 0, 0, 0⟩ : Event) x)) fun ac hA => st_p (vB (decide ((⟨x.g, x.kind, x.site, 0, 0, 0, 0, 0⟩ : Event) = x))) hA fun ac hA => ?_
   rcases Bool.eq_false_or_eq_true (decide ((⟨x.g, x.kind, x.site, 0, 0, 0, 0, 0⟩ : Event) = x)) with h91 | h91
   ·
    rw [h91] at hA
    have h91 := of_decide_eq_true h91
    have h91e := (Event.eqi _ _).1 h91
    refine st_p (pA b1 1) hA fun ac hA => st_q (vI .i64 x.kind) hA hW.cls (rl b1 1 2) fun ac hA => st_p (vB ((x.kind : Int) != (4 : Int))) hA fun ac hA => st_p (vB ((x.kind : Int) != (4 : Int))) hA fun ac hA => ?_
    rcases Bool.eq_false_or_eq_true ((x.kind : Int) != (4 : Int)) with h92 | h92
    ·
     rw [h92] at hA
     have h92 := bne_iff_ne.1 h92
     refine st_k hA fun ac hA => st_k hA fun ac hA => st_k hA fun ac hA => st_k hA fun ac hA => st_k hA fun ac hA => st_p (vB true) hA fun ac hA => st_p (vB true) hA fun ac hA => st_p (vB true) hA fun ac hA => wn <| wp_ret <| r1 (vB true) hA ?_
     clear hA
     dsimp only at h91e
     exact ⟨retv (congrArg vB (decide_eq_true (by unfold EvOk; omega)).symm), hW.fr⟩
    rw [h92] at hA
    have h92 := of_bne_f h92
    exfalso; clear hA hW; omega
   rw [h91] at hA
   have h91 := of_decide_eq_false h91
   have h91e := fun e => h91 ((Event.eqi _ _).2 e)
   refine st_k hA fun ac hA => st_k hA fun ac hA => st_k hA fun ac hA => st_k hA fun ac hA => st_k hA fun ac hA => st_k hA fun ac hA => st_k hA fun ac hA => st_k hA fun ac hA => st_k hA fun ac hA => st_k hA fun ac hA => st_p (vB false) hA fun ac hA => st_p (vB false) hA fun ac hA => wn <| wp_ret <| r1 (vB false) hA ?_
   clear hA
   dsimp only at h91e
   replace h91e : ¬ _ := h91e
   exact ⟨retv (congrArg vB (decide_eq_false (by unfold EvOk; omega)).symm), hW.fr⟩
  have h90 := of_decide_eq_false h90
  exfalso; clear hA hW; omega
 have h3 := of_decide_eq_false h3
 refine wp_region_lit <| st_p (pA b1 1) hA fun ac hA => st_q (vI .i64 x.kind) hA hW.cls (rl b1 1 0) fun ac hA => st_s hA (Runs.call (fun _ => by kernel_rfl) (e_enamed (x.kind) w2) ?_)
 rintro _ w93 ⟨n94, n95, n96, n97, n98, n99, n100, n101, rfl, hu_⟩; refine ⟨_, rfl, ?_⟩; replace hW := hW.made hu_; clear hA ac; intro ac hA
 rw [named_no (by omega)] at hA
 refine st_p (vT #[vS none 0 0, vB false]) hA fun ac hA => st_p (vS none 0 0) hA fun ac hA => st_p (vB false) hA fun ac hA => st_p (vS none 0 0) hA fun ac hA => st_p (vB false) hA fun ac hA => wn <| wp_seq <| wr <| st_p (vB false) hA fun ac hA => st_p (vB true) hA fun ac hA => st_p (vB true) hA fun ac hA => st_k hA fun ac hA => st_k hA fun ac hA => st_k hA fun ac hA => st_p (vB true) hA fun ac hA => st_p (vB true) hA fun ac hA => st_k hA fun ac hA => st_k hA fun ac hA => st_k hA fun ac hA => st_p (vB true) hA fun ac hA => st_p (vB true) hA fun ac hA => st_k hA fun ac hA => st_k hA fun ac hA => st_k hA fun ac hA => st_k hA fun ac hA => st_p (vB true) hA fun ac hA => wn <| wp_cond_true (hA.eval (by kernel_rfl)) <| wr <| st_p (vB false) hA ?_; clear hA ac; intro ac hA
 refine wn <| wp_ret <| thenR <| r1 (vB false) hA ?_
 clear hA
 exact ⟨retv (congrArg vB (decide_eq_false (by unfold EvOk; omega)).symm), hW.fr⟩

set_option maxRecDepth 100000 in
theorem e_echeck (x : Event) (w : World) (hx : 0 ≤ x.addr ∧ x.addr ≤ 4294967295) : Calls Tryz.prog 104 #[x.v] w (fun e w' => e = .returned (vI .i64 (argErr (evOk x))) ∧ Fr No w w') := by
 have _hu := hx; clear _hu
 refine enter_E 6 Tryz.func104 rfl rfl (by kernel_rfl) (L := [(0, x.v)]) (by kernel_rfl) ?_
 intro ac hA
 have hW := Ws.start w No
 refine wr <| st_s hA (Runs.cells (fun b => pA b 0) #[vI .i64 x.g, vI .i64 x.kind, vI .i64 x.site.f, vI .i64 x.site.pc, vI .u32 x.addr, vI .i64 x.child, vI .i64 x.obj, vI .i64 x.n, vI .i64 x.trap] 43 (fun _ => by kernel_rfl) hW ?_); clear hA ac hW; intro b1 w2 hW hb1 hfw2 ac hA
 refine st_p (vI .i64 0) hA ?_; clear hA ac; intro ac hA
 refine wn <| wp_seq <| wr <| st_q (vA #[vI .i64 x.g, vI .i64 x.kind, vI .i64 x.site.f, vI .i64 x.site.pc, vI .u32 x.addr, vI .i64 x.child, vI .i64 x.obj, vI .i64 x.n, vI .i64 x.trap]) hA hW.cls (rl b1 0 0) ?_; clear hA ac; intro ac hA
 refine st_s hA (Runs.callN (v := vB (evOk x)) (fun _ => by kernel_rfl) hW (e_eright x w2 (by omega)) ?_); clear hA ac hW; intro w3 hW hfw3 ac hA
 refine st_p (vB (!(evOk x))) hA ?_; clear hA ac; intro ac hA
 refine wn <| wp_cond_split (t := !(evOk x)) (hA.eval (by kernel_rfl)) (fun h4 => ?_) (fun h4 => ?_)
 ·
  have h4 := not_t h4
  refine wr <| st_p (vI .i64 2) hA ?_; clear hA ac; intro ac hA
  refine wn <| wp_ret <| thenR <| r1 (vI .i64 2) hA ?_
  clear hA
  exact ⟨retv (by rw [show evOk x = false from by simpa using h4]; rfl), hW.fr⟩
 have h4 := not_f h4
 refine wp_skip <| thenN <| wr <| st_p (vI .i64 0) hA ?_; clear hA ac; intro ac hA
 refine wn <| wp_ret <| r1 (vI .i64 0) hA ?_
 clear hA
 exact ⟨retv (by rw [show evOk x = true from by simpa using h4]; rfl), hW.fr⟩

set_option maxRecDepth 100000 in
theorem e_erel (x : Event) (w : World)  : Calls Tryz.prog 71 #[x.v] w (fun e w' => e = .returned (vB (evRel x)) ∧ Fr No w w') := by
 refine enter_E 15 Tryz.func71 rfl rfl (by kernel_rfl) (L := [(0, x.v)]) (by kernel_rfl) ?_
 intro ac hA
 have hW := Ws.start w No
 refine wr <| st_s hA (Runs.cells (fun b => pA b 0) #[vI .i64 x.g, vI .i64 x.kind, vI .i64 x.site.f, vI .i64 x.site.pc, vI .u32 x.addr, vI .i64 x.child, vI .i64 x.obj, vI .i64 x.n, vI .i64 x.trap] 43 (fun _ => by kernel_rfl) hW ?_); clear hA ac hW; intro b1 w2 hW hb1 hfw2 ac hA
 refine st_p (vB false) hA ?_; clear hA ac; intro ac hA
 refine wn <| wp_seq <| wr <| st_p (pA b1 1) hA fun ac hA => st_q (vI .i64 x.kind) hA hW.cls (rl b1 1 0) fun ac hA => wn <| wp_block <| wp_seq <| wr <| st_p (vB ((x.kind : Int) == (4 : Int))) hA fun ac hA => st_p (vB ((x.kind : Int) == (4 : Int))) hA fun ac hA => wn <| wp_cond_split (t := (x.kind : Int) == (4 : Int)) (hA.eval (by kernel_rfl)) (fun h3 => ?_) (fun h3 => ?_)
 ·
  have h3 := eq_of_beq h3
  refine wp_skip <| thenN <| wp_cond_split (t := (x.kind : Int) == (4 : Int)) (hA.eval (by kernel_rfl)) (fun h4 => ?_) (fun h4 => ?_)
  ·
   have h4 := eq_of_beq h4
   refine wr <| st_p (vB true) hA ?_; clear hA ac; intro ac hA
   refine wn <| wp_ret <| blkR <| thenR <| r1 (vB true) hA ?_
   clear hA
   exact ⟨retv (congrArg vB (decide_eq_true (by unfold EvRel; omega)).symm), hW.fr⟩
  have h4 := ne_of_beq_false h4
  exfalso; clear hA hW; omega
 have h3 := ne_of_beq_false h3
 refine wr <| st_p (vB ((x.kind : Int) == (6 : Int))) hA fun ac hA => st_p (vB ((x.kind : Int) == (6 : Int))) hA fun ac hA => wn <| wp_cond_split (t := (x.kind : Int) == (6 : Int)) (hA.eval (by kernel_rfl)) (fun h5 => ?_) (fun h5 => ?_)
 ·
  have h5 := eq_of_beq h5
  refine wp_skip <| thenN <| wp_cond_split (t := (x.kind : Int) == (6 : Int)) (hA.eval (by kernel_rfl)) (fun h6 => ?_) (fun h6 => ?_)
  ·
   have h6 := eq_of_beq h6
   refine wr <| st_p (vB true) hA ?_; clear hA ac; intro ac hA
   refine wn <| wp_ret <| blkR <| thenR <| r1 (vB true) hA ?_
   clear hA
   exact ⟨retv (congrArg vB (decide_eq_true (by unfold EvRel; omega)).symm), hW.fr⟩
  have h6 := ne_of_beq_false h6
  exfalso; clear hA hW; omega
 have h5 := ne_of_beq_false h5
 refine wr <| st_p (vB ((x.kind : Int) == (8 : Int))) hA fun ac hA => st_p (vB ((x.kind : Int) == (8 : Int))) hA fun ac hA => wn <| wp_cond_split (t := (x.kind : Int) == (8 : Int)) (hA.eval (by kernel_rfl)) (fun h7 => ?_) (fun h7 => ?_)
 ·
  have h7 := eq_of_beq h7
  refine wp_skip <| thenN <| wp_cond_split (t := (x.kind : Int) == (8 : Int)) (hA.eval (by kernel_rfl)) (fun h8 => ?_) (fun h8 => ?_)
  ·
   have h8 := eq_of_beq h8
   refine wr <| st_p (vB true) hA ?_; clear hA ac; intro ac hA
   refine wn <| wp_ret <| blkR <| thenR <| r1 (vB true) hA ?_
   clear hA
   exact ⟨retv (congrArg vB (decide_eq_true (by unfold EvRel; omega)).symm), hW.fr⟩
  have h8 := ne_of_beq_false h8
  exfalso; clear hA hW; omega
 have h7 := ne_of_beq_false h7
 refine wp_region_lit <| st_p (vB ((x.kind : Int) == (10 : Int))) hA fun ac hA => st_p (vB ((x.kind : Int) == (10 : Int))) hA fun ac hA => wn <| wp_cond_split (t := (x.kind : Int) == (10 : Int)) (hA.eval (by kernel_rfl)) (fun h9 => ?_) (fun h9 => ?_)
 ·
  have h9 := eq_of_beq h9
  refine wr <| st_p (vB true) hA ?_; clear hA ac; intro ac hA
  refine wn <| wp_ret <| blkR <| thenR <| r1 (vB true) hA ?_
  clear hA
  exact ⟨retv (congrArg vB (decide_eq_true (by unfold EvRel; omega)).symm), hW.fr⟩
 have h9 := ne_of_beq_false h9
 refine wr <| st_p (vB ((x.kind : Int) == (11 : Int))) hA fun ac hA => st_p (vB ((x.kind : Int) == (11 : Int))) hA fun ac hA => wn <| wp_cond_split (t := (x.kind : Int) == (11 : Int)) (hA.eval (by kernel_rfl)) (fun h10 => ?_) (fun h10 => ?_)
 ·
  have h10 := eq_of_beq h10
  refine wr <| st_p (pA b1 7) hA fun ac hA => st_q (vI .i64 x.n) hA hW.cls (rl b1 7 0) fun ac hA => st_p (vB (decide ((x.n : Int) < (0 : Int)))) hA fun ac hA => st_p (vB (decide ((x.n : Int) < (0 : Int)))) hA fun ac hA => wn <| wp_ret <| blkR <| thenR <| r1 (vB (decide ((x.n : Int) < (0 : Int)))) hA ?_
  clear hA
  refine ⟨retv (congrArg vB ?_), hW.fr⟩
  rcases Bool.eq_false_or_eq_true (decide ((x.n : Int) < (0 : Int))) with q_ | q_
  · rw [q_]
    have q_ := of_decide_eq_true q_
    exact (decide_eq_true (by unfold EvRel; omega)).symm
  · rw [q_]
    have q_ := of_decide_eq_false q_
    exact (decide_eq_false (by unfold EvRel; omega)).symm
 have h10 := ne_of_beq_false h10
 refine wp_skip <| blkN <| thenN <| wr <| st_p (vB false) hA ?_; clear hA ac; intro ac hA
 refine wn <| wp_ret <| r1 (vB false) hA ?_
 clear hA
 exact ⟨retv (congrArg vB (decide_eq_false (by unfold EvRel; omega)).symm), hW.fr⟩

end Go.Proofs.YtoakhhilmnfpkaaGreatDoor.L
