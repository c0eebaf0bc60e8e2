/- Contracts, walked by program over the engine's laws. -/
import Derived.Test.YtfkbjfbbigbacaaGreatDoorProg
import Derived.Test.YtfkbjfbbigbacaaGreatDoorT9
namespace Go.Proofs.YtfkbjfbbigbacaaGreatDoor.L
open Go.RowKit
open Go.Value renaming int → vI, slice → vS, bool → vB, pointer → vP, func → vF, agg → vA, map → vM, tuple → vT

theorem Ws.addE {w0 w : World} {S : Nat → Prop} {H G : List Res} (h : Ws w0 S H G w) (r : Res) (hp : r.p w) (hf : r.fp = []) : Ws w0 S (r :: H) G w := by
  refine ⟨h.fr, fun x hx => ?_, fun x hx => ?_, List.pairwise_cons.2 ⟨fun x _ b hb => by rw [hf] at hb; (cases hb), h.nd⟩, fun x hx => ?_, h.gat, h.glt, fun g hg x hx => ?_⟩ <;> rcases List.mem_cons.1 hx with rfl | hx
  · exact hp
  · exact h.at_ x hx
  · intro b hb; rw [hf] at hb; cases hb
  · exact h.lt x hx
  · intro b hb; rw [hf] at hb; cases hb
  · exact h.may x hx
  · intro b hb; rw [hf] at hb; cases hb
  · exact h.gd g hg x hx
theorem nest0 {w : World} : (nestR innerSV (NV [] [] [])).p w := nest_p.2 (fun x hx => by simp [NV] at hx; subst hx; exact .inl rfl)
theorem nest0fp : (nestR innerSV (NV [] [] [])).fp = [] := List.eq_nil_iff_forall_not_mem.2 (fun b hb => by obtain ⟨x, hx, hc⟩ := nest_fp.1 hb; simp [NV] at hx; subst hx; simp [innerSV, roR, nilSV] at hc)
theorem OrdOk.none : OrdOk [] [] [] [] := ⟨by decide, by simp, rfl, fun _ => rfl, fun _ _ => rfl, by simp [NV, capSV, nilSV], by simp [NV, nilSV]⟩
def newOk (l : List Event) : Prop := l.length ≤ 4096 ∧ ∀ x ∈ l, EvOk x
instance (l : List Event) : Decidable (newOk l) := by unfold newOk; infer_instance
def newErr (l : List Event) : Int := if 4096 < l.length then 3 else 2
set_option maxRecDepth 100000 in
theorem e_onew (A_tr : Option Addr) (c_tr : Nat) (tr : List Event) (w : World) (hr_tr : RowAt w A_tr 9 enEvent tr) (hc_tr : tr.length ≤ c_tr) (hl : tr.length ≤ 4096) (hall : ∀ x ∈ tr, EvOk x) (had : ∀ x ∈ tr, 0 ≤ x.addr ∧ x.addr ≤ 4294967295) : Calls Tryz.prog 10 #[vS A_tr tr.length c_tr] w (fun e w' => ∃ m : Nat, ∃ Ae : Option Addr, ∃ ce : Nat, ∃ Ak : Option Addr, ∃ ck : Nat, ∃ C : List SV, ∃ bg : Nat, ∃ G : List (Int × SV), ∃ bt : Nat, ∃ T : List (Thing × SV), e = .returned (vT #[pA m 0, vI .i64 0]) ∧ (OrdOk tr C G T) ∧ Made (OrdR m Ae ce tr Ak ck C bg G bt T) w w') := by
 have _hu := hc_tr; have _hv := hr_tr; clear _hu _hv
 have _hu := hl; clear _hu
 have _hu := hall; clear _hu
 have _hu := had; clear _hu
 refine enter_E 27 Tryz.func10 rfl rfl (by kernel_rfl) (L := [(0, vS A_tr tr.length c_tr)]) (by kernel_rfl) ?_
 intro ac hA
 have hW := Ws.start w No
 have hW := hW.arg hr_tr
 refine wr <| st_p (vP none) hA fun ac hA => st_p (vI .i64 0) hA fun ac hA => wn <| wp_fwd (l := 0) rfl <| wp_seq <| wr <| st_p (vI .i64 3) hA ?_; clear hA ac; intro ac hA
 refine wn <| wr <| st_p (vS A_tr tr.length c_tr) hA fun ac hA => st_p (vI .i64 (tr.length : Int)) hA fun ac hA => st_p (vB (decide ((tr.length : Int) > (4096 : Int)))) hA fun ac hA => wn <| wp_cond_split (t := decide ((tr.length : Int) > (4096 : Int))) (hA.eval (by kernel_rfl)) (fun h1 => ?_) (fun h1 => ?_)
 ·
  have h1 := of_decide_eq_true h1
  exfalso; clear hA hW; omega
 have h1 := of_decide_eq_false h1
 refine wp_skip <| thenN <| wr <| st_s hA (Runs.makeMap (fun a : Int => vI .i64 a) SV.v hW ?_); clear hA ac hW; intro b2 w3 hW hb2 hfw3 ac hA
 refine st_s hA (Runs.makeMap Thing.v SV.v hW ?_); clear hA ac hW; intro b4 w5 hW hb4 hfw5 ac hA
 refine st_p (vA #[vS none 0 0, vS none 0 0, vM (some b2), vM (some b4)]) hA ?_; clear hA ac; intro ac hA
 refine st_s hA (Runs.cells (fun b => pA b 0) #[vS none 0 0, vS none 0 0, vM (some b2), vM (some b4)] 64 (fun _ => by kernel_rfl) hW ?_); clear hA ac hW; intro b6 w7 hW hb6 hfw7 ac hA
 refine st_p (pA b6 0) hA ?_; clear hA ac; intro ac hA
 refine wn <| wp_seq <| wr <| st_p (vS A_tr tr.length c_tr) hA fun ac hA => st_p (vI .i64 (tr.length : Int)) hA fun ac hA => st_p (vI .i64 0) hA fun ac hA => wn <| wp_block ?_
 have hW := hW.addNil 51 9 enEvent
 have hW := hW.addNil 105 1 enSV
 have hW := Ws.addE hW (nestR innerSV (NV [] [] [])) nest0 nest0fp
 have hW : Ws w No [OrdR b6 none 0 ([]) none 0 ([]) b2 ([]) b4 ([])] [roR A_tr 9 enEvent tr] w7 := Ws.pack (hW.pick [3, 2, 1, 5, 4, 0] (by decide) rfl)
 refine wp_loop_m (fun m_ ac_ wl_ => ∃ k : Nat, ∃ E : List Event, ∃ Ae : Option Addr, ∃ ce : Nat, ∃ Ak : Option Addr, ∃ ck : Nat, ∃ C : List SV, ∃ G : List (Int × SV), ∃ T : List (Thing × SV), m_ = tr.length - k ∧ (k ≤ tr.length) ∧ (E = tr.take k) ∧ (OrdOk E C G T) ∧ Fm 27 [] [(2, pA b6 0), (13, vS A_tr tr.length c_tr), (14, vI .i64 (tr.length : Int)), (15, vI .i64 (k : Int))] ac_ ∧ Ws w No [OrdR b6 Ae ce E Ak ck C b2 G b4 T] [roR A_tr 9 enEvent tr] wl_) _ ⟨0, [], none, 0, none, 0, [], [], [], rfl, by omega, by rfl, by exact OrdOk.none, hA.sub (by and_intros <;> first | kernel_rfl | trivial), (hW.pick [0] (by decide) rfl).pickG [0] rfl⟩ ?_
 clear hA ac hW; rintro m_ ac w8 ⟨k, E, Ae, ce, Ak, ck, C, G, T, rfl, hk, hE_, hK_, hA, hW⟩
 refine wr <| st_p (vB (decide ((k : Int) < (tr.length : Int)))) hA ?_; clear hA ac; intro ac hA
 refine wn <| wp_seq <| wp_cond_split (t := decide ((k : Int) < (tr.length : Int))) (hA.eval (by kernel_rfl)) (fun h9 => ?_) (fun h9 => ?_)
 ·
  have h9 := of_decide_eq_true h9
  refine wp_skip <| thenN <| wp_seq <| wp_block <| wr ?_
  obtain ⟨y10, hy10⟩ : ∃ y, tr[k]? = some y := ⟨_, List.getElem?_eq_getElem (by first | omega | (simp; done) | (simp; omega))⟩
  obtain ⟨b11, o12, rfl, hbb11⟩ := row_some ((hW).getG 0 rfl) hy10
  refine st_q (vP (some ⟨b11, o12 + k * 9, none⟩)) hA hW.cls (Rd.indexAddr (e := 51) (sz := 9) (b := b11) (off := o12) (n := tr.length) (c := c_tr) (k := k) (by kernel_rfl) (by kernel_rfl) (by first | omega | (simp; done) | (simp; omega)) (fun _ => by kernel_rfl) (fun _ => by kernel_rfl)) fun ac hA => st_q (vA #[vI .i64 y10.g, vI .i64 y10.kind, vI .i64 y10.site.f, vI .i64 y10.site.pc, vI .u32 y10.addr, vI .i64 y10.child, vI .i64 y10.obj, vI .i64 y10.n, vI .i64 y10.trap]) hA hW.cls (Rd.loadRow (b := b11) (i := o12 + k * 9) (xs := [vI .i64 y10.g, vI .i64 y10.kind, vI .i64 y10.site.f, vI .i64 y10.site.pc, vI .u32 y10.addr, vI .i64 y10.child, vI .i64 y10.obj, vI .i64 y10.n, vI .i64 y10.trap]) (by kernel_rfl) (fun _ hw => row_ld ((hw.1).getG 0 rfl) hy10 (Fr.refl No _) (fun h => h) 0 9 (by kernel_rfl)) (by kernel_rfl)) fun ac hA => st_s hA (Runs.cells (fun b => pA b 0) #[vI .i64 0, vI .i64 0, vI .i64 0, vI .i64 0, vI .u32 0, vI .i64 0, vI .i64 0, vI .i64 0, vI .i64 0] 51 (fun _ => by kernel_rfl) hW ?_); clear hA ac hW; intro b13 w14 hW hb13 hfw14 ac hA
  refine st_s hA (Runs.store (v := vA #[vI .i64 y10.g, vI .i64 y10.kind, vI .i64 y10.site.f, vI .i64 y10.site.pc, vI .u32 y10.addr, vI .i64 y10.child, vI .i64 y10.obj, vI .i64 y10.n, vI .i64 y10.trap]) (b := b13) (j := 0) (n := 9) (cs' := #[vI .i64 y10.g, vI .i64 y10.kind, vI .i64 y10.site.f, vI .i64 y10.site.pc, vI .u32 y10.addr, vI .i64 y10.child, vI .i64 y10.obj, vI .i64 y10.n, vI .i64 y10.trap]) (H' := [Cel b13 #[vI .i64 y10.g, vI .i64 y10.kind, vI .i64 y10.site.f, vI .i64 y10.site.pc, vI .u32 y10.addr, vI .i64 y10.child, vI .i64 y10.obj, vI .i64 y10.n, vI .i64 y10.trap] 51, OrdR b6 Ae ce E Ak ck C b2 G b4 T]) (by kernel_rfl) (by kernel_rfl) (by kernel_rfl) (by kernel_rfl) (by kernel_rfl) hW 0 (by rfl) (Nat.le_of_ble_eq_true (by kernel_rfl)) (by kernel_rfl) (by rfl) ?_); clear hA ac hW; intro w15 hW ac hA
  refine wn <| wr <| st_p (pA b6 0) hA fun ac hA => st_q (vA #[vI .i64 y10.g, vI .i64 y10.kind, vI .i64 y10.site.f, vI .i64 y10.site.pc, vI .u32 y10.addr, vI .i64 y10.child, vI .i64 y10.obj, vI .i64 y10.n, vI .i64 y10.trap]) hA hW.cls (rl b13 0 0) fun ac hA => st_s hA (Runs.call (fun _ => by kernel_rfl) (e_oadd b6 Ae ce E Ak ck C b2 G b4 T y10 w15 ((hW).get 1 rfl) ((hW).lt _ (List.mem_of_getElem? (i := 1) rfl)) (by first | omega | assumption | exact had _ (List.mem_of_getElem? (by assumption)) | exact hK_) (by first | omega | assumption | exact had _ (List.mem_of_getElem? (by assumption)) | exact hK_)) ?_)
  rintro _ w16 ⟨u17, u18, u19, u20, u21, u22, u23, u24, u25, rfl, hw16_hE, hw16_hK, hu_⟩; refine ⟨_, rfl, ?_⟩; replace hW := hW.upd (H' := [Cel b13 #[vI .i64 y10.g, vI .i64 y10.kind, vI .i64 y10.site.f, vI .i64 y10.site.pc, vI .u32 y10.addr, vI .i64 y10.child, vI .i64 y10.obj, vI .i64 y10.n, vI .i64 y10.trap] 51, OrdR b6 u19 u20 u18 u22 u23 u21 b2 u24 b4 u25]) 1 rfl hu_ rfl; clear hA ac; intro ac hA
  refine st_p (vI .i64 u17) hA ?_; clear hA ac; intro ac hA
  refine wn <| wp_seq ?_
  have hxo_ := hall _ (List.mem_of_getElem? hy10)
  have q_ := hw16_hE.trans (addE_yes (by rw [hE_, List.length_take]; omega) hxo_).symm
  have her_ : u17 = 0 := congrArg Prod.fst q_
  have hEE_ : u18 = E ++ [y10] := congrArg Prod.snd q_
  refine wp_region_lit <| st_p (vI .i64 u17) hA fun ac hA => st_p (vB ((u17 : Int) != (0 : Int))) hA fun ac hA => wn <| wp_cond_split (t := (u17 : Int) != (0 : Int)) (hA.eval (by kernel_rfl)) (fun h26 => ?_) (fun h26 => ?_)
  ·
   have h26 := bne_iff_ne.1 h26
   exfalso; clear hA hW; omega
  have h26 := of_bne_f h26
  refine wp_skip <| blkN <| thenN <| wp_region_lit <| st_q (vI .i64 ((k + 1 : Nat) : Int)) hA hW.cls (Rd.pureE (v0 := vI .i64 (IntKind.i64.wrap ((k : Int) + 1))) (fun _ => by kernel_rfl) (congrArg (vI .i64) ((w_i64 (x := (k : Int) + 1) (by omega) (by omega)).trans (by omega)))) fun ac hA => st_p (vI .i64 ((k + 1 : Nat) : Int)) hA fun ac hA => wn ?_
  exact ⟨tr.length - (k + 1), by omega, k + 1, u18, u19, u20, u22, u23, u21, u24, u25, rfl, by omega, by rw [tk_snoc hy10, ← hE_]; exact hEE_, by exact hw16_hK, hA.sub (by and_intros <;> first | kernel_rfl | trivial), (hW.pick [1] (by decide) rfl).pickG [0] rfl⟩
 have h9 := of_decide_eq_false h9
 refine wp_exit <| thenX <| thenX <| blkX <| thenN <| wp_seq <| wr <| st_p (pA b6 0) hA fun ac hA => st_p (pA b6 0) hA fun ac hA => st_p (vI .i64 0) hA fun ac hA => wn <| wp_ret <| thenR <| fwdR <| ret2 (v1 := pA b6 0) (v2 := vI .i64 0) (by rfl) hA (Got.tmp hA (by kernel_rfl) (by kernel_rfl)) (Got.tmp hA (by kernel_rfl) (by kernel_rfl)) ?_
 clear hA
 have hET_ : E = tr := by rw [hE_, List.take_of_length_le (by omega)]
 subst hET_
 exact ⟨b6, Ae, ce, Ak, ck, C, b2, G, b4, T, rfl, hK_, (hW.pick [0] (by decide) rfl).madeDone 0 rfl⟩

set_option maxRecDepth 100000 in
theorem e_onewB (A_tr : Option Addr) (c_tr : Nat) (tr : List Event) (w : World) (hr_tr : RowAt w A_tr 9 enEvent tr) (hc_tr : tr.length ≤ c_tr) (hbad : ¬ newOk tr) (had : ∀ x ∈ tr, 0 ≤ x.addr ∧ x.addr ≤ 4294967295) : Calls Tryz.prog 10 #[vS A_tr tr.length c_tr] w (fun e w' => e = .returned (vT #[vP none, vI .i64 (newErr tr)]) ∧ Fr No w w') := by
 have _hu := hc_tr; have _hv := hr_tr; clear _hu _hv
 have _hu := hbad; clear _hu
 have _hu := had; clear _hu
 refine enter_E 27 Tryz.func10 rfl rfl (by kernel_rfl) (L := [(0, vS A_tr tr.length c_tr)]) (by kernel_rfl) ?_
 intro ac hA
 have hW := Ws.start w No
 have hW := hW.arg hr_tr
 refine wr <| st_p (vP none) hA fun ac hA => st_p (vI .i64 0) hA fun ac hA => wn <| wp_fwd (l := 0) rfl <| wp_seq <| wr <| st_p (vI .i64 3) hA ?_; clear hA ac; intro ac hA
 refine wn <| wr <| st_p (vS A_tr tr.length c_tr) hA fun ac hA => st_p (vI .i64 (tr.length : Int)) hA fun ac hA => st_p (vB (decide ((tr.length : Int) > (4096 : Int)))) hA fun ac hA => wn <| wp_cond_split (t := decide ((tr.length : Int) > (4096 : Int))) (hA.eval (by kernel_rfl)) (fun h1 => ?_) (fun h1 => ?_)
 ·
  have h1 := of_decide_eq_true h1
  refine wp_goto <| thenG <| fwdG <| wp_seq <| wp_skip <| thenN <| wr <| st_p (vI .i64 3) hA fun ac hA => st_p (vP none) hA fun ac hA => st_p (vI .i64 3) hA fun ac hA => wn <| wp_ret <| nogR <| ret2 (v1 := vP none) (v2 := vI .i64 3) (by rfl) hA (Got.tmp hA (by kernel_rfl) (by kernel_rfl)) (Got.tmp hA (by kernel_rfl) (by kernel_rfl)) ?_
  clear hA
  exact ⟨retv (by unfold newErr; rw [if_pos (by omega)]), hW.fr⟩
 have h1 := of_decide_eq_false h1
 refine wp_skip <| thenN <| wr <| st_s hA (Runs.makeMap (fun a : Int => vI .i64 a) SV.v hW ?_); clear hA ac hW; intro b2 w3 hW hb2 hfw3 ac hA
 refine st_s hA (Runs.makeMap Thing.v SV.v hW ?_); clear hA ac hW; intro b4 w5 hW hb4 hfw5 ac hA
 refine st_p (vA #[vS none 0 0, vS none 0 0, vM (some b2), vM (some b4)]) hA ?_; clear hA ac; intro ac hA
 refine st_s hA (Runs.cells (fun b => pA b 0) #[vS none 0 0, vS none 0 0, vM (some b2), vM (some b4)] 64 (fun _ => by kernel_rfl) hW ?_); clear hA ac hW; intro b6 w7 hW hb6 hfw7 ac hA
 refine st_p (pA b6 0) hA ?_; clear hA ac; intro ac hA
 refine wn <| wp_seq <| wr <| st_p (vS A_tr tr.length c_tr) hA fun ac hA => st_p (vI .i64 (tr.length : Int)) hA fun ac hA => st_p (vI .i64 0) hA fun ac hA => wn <| wp_block ?_
 have hW := hW.addNil 51 9 enEvent
 have hW := hW.addNil 105 1 enSV
 have hW := Ws.addE hW (nestR innerSV (NV [] [] [])) nest0 nest0fp
 have hW : Ws w No [OrdR b6 none 0 ([]) none 0 ([]) b2 ([]) b4 ([])] [roR A_tr 9 enEvent tr] w7 := Ws.pack (hW.pick [3, 2, 1, 5, 4, 0] (by decide) rfl)
 refine wp_loop_m (fun m_ ac_ wl_ => ∃ k : Nat, ∃ E : List Event, ∃ Ae : Option Addr, ∃ ce : Nat, ∃ Ak : Option Addr, ∃ ck : Nat, ∃ C : List SV, ∃ G : List (Int × SV), ∃ T : List (Thing × SV), m_ = tr.length - k ∧ (k ≤ tr.length) ∧ (E = tr.take k) ∧ (OrdOk E C G T) ∧ (∀ x ∈ tr.take k, EvOk x) ∧ Fm 27 [] [(2, pA b6 0), (13, vS A_tr tr.length c_tr), (14, vI .i64 (tr.length : Int)), (15, vI .i64 (k : Int))] ac_ ∧ Ws w No [OrdR b6 Ae ce E Ak ck C b2 G b4 T] [roR A_tr 9 enEvent tr] wl_) _ ⟨0, [], none, 0, none, 0, [], [], [], rfl, by omega, by rfl, by exact OrdOk.none, by simp, hA.sub (by and_intros <;> first | kernel_rfl | trivial), (hW.pick [0] (by decide) rfl).pickG [0] rfl⟩ ?_
 clear hA ac hW; rintro m_ ac w8 ⟨k, E, Ae, ce, Ak, ck, C, G, T, rfl, hk, hE_, hK_, hal_, hA, hW⟩
 refine wr <| st_p (vB (decide ((k : Int) < (tr.length : Int)))) hA ?_; clear hA ac; intro ac hA
 refine wn <| wp_seq <| wp_cond_split (t := decide ((k : Int) < (tr.length : Int))) (hA.eval (by kernel_rfl)) (fun h9 => ?_) (fun h9 => ?_)
 ·
  have h9 := of_decide_eq_true h9
  refine wp_skip <| thenN <| wp_seq <| wp_block <| wr ?_
  obtain ⟨y10, hy10⟩ : ∃ y, tr[k]? = some y := ⟨_, List.getElem?_eq_getElem (by first | omega | (simp; done) | (simp; omega))⟩
  obtain ⟨b11, o12, rfl, hbb11⟩ := row_some ((hW).getG 0 rfl) hy10
  refine st_q (vP (some ⟨b11, o12 + k * 9, none⟩)) hA hW.cls (Rd.indexAddr (e := 51) (sz := 9) (b := b11) (off := o12) (n := tr.length) (c := c_tr) (k := k) (by kernel_rfl) (by kernel_rfl) (by first | omega | (simp; done) | (simp; omega)) (fun _ => by kernel_rfl) (fun _ => by kernel_rfl)) fun ac hA => st_q (vA #[vI .i64 y10.g, vI .i64 y10.kind, vI .i64 y10.site.f, vI .i64 y10.site.pc, vI .u32 y10.addr, vI .i64 y10.child, vI .i64 y10.obj, vI .i64 y10.n, vI .i64 y10.trap]) hA hW.cls (Rd.loadRow (b := b11) (i := o12 + k * 9) (xs := [vI .i64 y10.g, vI .i64 y10.kind, vI .i64 y10.site.f, vI .i64 y10.site.pc, vI .u32 y10.addr, vI .i64 y10.child, vI .i64 y10.obj, vI .i64 y10.n, vI .i64 y10.trap]) (by kernel_rfl) (fun _ hw => row_ld ((hw.1).getG 0 rfl) hy10 (Fr.refl No _) (fun h => h) 0 9 (by kernel_rfl)) (by kernel_rfl)) fun ac hA => st_s hA (Runs.cells (fun b => pA b 0) #[vI .i64 0, vI .i64 0, vI .i64 0, vI .i64 0, vI .u32 0, vI .i64 0, vI .i64 0, vI .i64 0, vI .i64 0] 51 (fun _ => by kernel_rfl) hW ?_); clear hA ac hW; intro b13 w14 hW hb13 hfw14 ac hA
  refine st_s hA (Runs.store (v := vA #[vI .i64 y10.g, vI .i64 y10.kind, vI .i64 y10.site.f, vI .i64 y10.site.pc, vI .u32 y10.addr, vI .i64 y10.child, vI .i64 y10.obj, vI .i64 y10.n, vI .i64 y10.trap]) (b := b13) (j := 0) (n := 9) (cs' := #[vI .i64 y10.g, vI .i64 y10.kind, vI .i64 y10.site.f, vI .i64 y10.site.pc, vI .u32 y10.addr, vI .i64 y10.child, vI .i64 y10.obj, vI .i64 y10.n, vI .i64 y10.trap]) (H' := [Cel b13 #[vI .i64 y10.g, vI .i64 y10.kind, vI .i64 y10.site.f, vI .i64 y10.site.pc, vI .u32 y10.addr, vI .i64 y10.child, vI .i64 y10.obj, vI .i64 y10.n, vI .i64 y10.trap] 51, OrdR b6 Ae ce E Ak ck C b2 G b4 T]) (by kernel_rfl) (by kernel_rfl) (by kernel_rfl) (by kernel_rfl) (by kernel_rfl) hW 0 (by rfl) (Nat.le_of_ble_eq_true (by kernel_rfl)) (by kernel_rfl) (by rfl) ?_); clear hA ac hW; intro w15 hW ac hA
  refine wn <| wr <| st_p (pA b6 0) hA fun ac hA => st_q (vA #[vI .i64 y10.g, vI .i64 y10.kind, vI .i64 y10.site.f, vI .i64 y10.site.pc, vI .u32 y10.addr, vI .i64 y10.child, vI .i64 y10.obj, vI .i64 y10.n, vI .i64 y10.trap]) hA hW.cls (rl b13 0 0) fun ac hA => st_s hA (Runs.call (fun _ => by kernel_rfl) (e_oadd b6 Ae ce E Ak ck C b2 G b4 T y10 w15 ((hW).get 1 rfl) ((hW).lt _ (List.mem_of_getElem? (i := 1) rfl)) (by first | omega | assumption | exact had _ (List.mem_of_getElem? (by assumption)) | exact hK_) (by first | omega | assumption | exact had _ (List.mem_of_getElem? (by assumption)) | exact hK_)) ?_)
  rintro _ w16 ⟨u17, u18, u19, u20, u21, u22, u23, u24, u25, rfl, hw16_hE, hw16_hK, hu_⟩; refine ⟨_, rfl, ?_⟩; replace hW := hW.upd (H' := [Cel b13 #[vI .i64 y10.g, vI .i64 y10.kind, vI .i64 y10.site.f, vI .i64 y10.site.pc, vI .u32 y10.addr, vI .i64 y10.child, vI .i64 y10.obj, vI .i64 y10.n, vI .i64 y10.trap] 51, OrdR b6 u19 u20 u18 u22 u23 u21 b2 u24 b4 u25]) 1 rfl hu_ rfl; clear hA ac; intro ac hA
  refine st_p (vI .i64 u17) hA ?_; clear hA ac; intro ac hA
  refine wn <| wp_seq ?_
  have hq_ : (u17 = 0 ∧ EvOk y10 ∧ u18 = E ++ [y10]) ∨ (u17 = 2 ∧ ¬ EvOk y10) := by
    by_cases q : EvOk y10
    · have q_ := hw16_hE.trans (addE_yes (by rw [hE_, List.length_take]; omega) q).symm; exact .inl ⟨congrArg Prod.fst q_, q, congrArg Prod.snd q_⟩
    · have q_ := hw16_hE.trans (addE_no2 (by rw [hE_, List.length_take]; omega) q).symm; exact .inr ⟨congrArg Prod.fst q_, q⟩
  refine wp_region_lit <| st_p (vI .i64 u17) hA fun ac hA => st_p (vB ((u17 : Int) != (0 : Int))) hA fun ac hA => wn <| wp_cond_split (t := (u17 : Int) != (0 : Int)) (hA.eval (by kernel_rfl)) (fun h26 => ?_) (fun h26 => ?_)
  ·
   have h26 := bne_iff_ne.1 h26
   refine wp_goto <| blkG <| thenG <| thenG <| blkG <| thenG <| fwdG <| wp_seq <| wp_skip <| thenN <| wr <| st_p (vI .i64 u17) hA fun ac hA => st_p (vP none) hA fun ac hA => st_p (vI .i64 u17) hA fun ac hA => wn <| wp_ret <| nogR <| ret2 (v1 := vP none) (v2 := vI .i64 u17) (by rfl) hA (Got.tmp hA (by kernel_rfl) (by kernel_rfl)) (Got.tmp hA (by kernel_rfl) (by kernel_rfl)) ?_
   clear hA
   exact ⟨retv (by rw [show u17 = 2 from by omega]; unfold newErr; rw [if_neg (by omega)]), hW.fr⟩
  have h26 := of_bne_f h26
  refine wp_skip <| blkN <| thenN ?_
  have hEE_ := (hq_.resolve_right (fun h_ => by omega)).2.2; have hxo_ := (hq_.resolve_right (fun h_ => by omega)).2.1
  refine wp_region_lit <| st_q (vI .i64 ((k + 1 : Nat) : Int)) hA hW.cls (Rd.pureE (v0 := vI .i64 (IntKind.i64.wrap ((k : Int) + 1))) (fun _ => by kernel_rfl) (congrArg (vI .i64) ((w_i64 (x := (k : Int) + 1) (by omega) (by omega)).trans (by omega)))) fun ac hA => st_p (vI .i64 ((k + 1 : Nat) : Int)) hA fun ac hA => wn ?_
  exact ⟨tr.length - (k + 1), by omega, k + 1, u18, u19, u20, u22, u23, u21, u24, u25, rfl, by omega, by rw [tk_snoc hy10, ← hE_]; exact hEE_, by exact hw16_hK, by intro z_ hz_; rw [tk_snoc hy10] at hz_; rcases List.mem_append.1 hz_ with hz_ | hz_; exact hal_ z_ hz_; (rw [List.mem_singleton.1 hz_]; exact hxo_), hA.sub (by and_intros <;> first | kernel_rfl | trivial), (hW.pick [1] (by decide) rfl).pickG [0] rfl⟩
 have h9 := of_decide_eq_false h9
 refine wp_exit <| thenX <| thenX <| blkX <| thenN <| wp_seq <| wr <| st_p (pA b6 0) hA fun ac hA => st_p (pA b6 0) hA fun ac hA => st_p (vI .i64 0) hA fun ac hA => wn <| wp_ret <| thenR <| fwdR <| ret2 (v1 := pA b6 0) (v2 := vI .i64 0) (by rfl) hA (Got.tmp hA (by kernel_rfl) (by kernel_rfl)) (Got.tmp hA (by kernel_rfl) (by kernel_rfl)) ?_
 clear hA
 exact absurd ⟨by omega, by rw [List.take_of_length_le (by omega)] at hal_; exact hal_⟩ hbad

end Go.Proofs.YtfkbjfbbigbacaaGreatDoor.L
