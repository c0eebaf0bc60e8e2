/- Contracts, walked by program over the engine's laws. -/
import Derived.Test.YtfkbjfbbigbacaaGreatDoorProg
import Derived.Test.YtfkbjfbbigbacaaGreatDoorT25
import Derived.Test.YtfkbjfbbigbacaaGreatDoorSortR21
namespace Go.Proofs.YtfkbjfbbigbacaaGreatDoor.L
open Go.RowKit
open Go.Value renaming int → vI, slice → vS, bool → vB, pointer → vP, func → vF, agg → vA, map → vM, tuple → vT

set_option maxRecDepth 100000 in
theorem e_rFirsts (m : Nat) (Ae : Option Addr) (ce : Nat) (E : List Event) (Ak : Option Addr) (ck : Nat) (C : List SV) (bg : Nat) (G : List (Int × SV)) (bt : Nat) (T : List (Thing × SV)) (w : World) (ho_o : (OrdR m Ae ce E Ak ck C bg G bt T).p w) (hl_o : ∀ x_ ∈ (OrdR m Ae ce E Ak ck C bg G bt T).fp, x_ < w.heap.size) (hok : OrdOk E C G T) (hE100 : E.length ≤ 100) : Calls Tryz.prog 20 #[pA m 0] w (Fresh 47 7 enRace (refL (raceL E)) w) := by
 have _hu := ho_o; have _hv := hl_o; clear _hu _hv
 have _hu := hok; clear _hu
 have _hu := hE100; clear _hu
 have hbg_ := race_lil hE100
 refine enter_E 32 Tryz.func20 rfl rfl (by kernel_rfl) (L := [(0, pA m 0)]) (by kernel_rfl) ?_
 intro ac hA
 have hW := Ws.start w No
 have hW := hW.addG (OrdR m Ae ce E Ak ck C bg G bt T) ho_o hl_o (by simp)
 clear ho_o hl_o
 refine wr <| st_p (vS none 0 0) hA ?_; clear hA ac; intro ac hA
 refine wn <| wr <| st_s hA (Runs.makeMap (fun a : Int => vI .u32 a) (fun a : Int => vI .i64 a) hW ?_); clear hA ac hW; intro b1 w2 hW hb1 hfw2 ac hA
 refine st_p (vM (some b1)) hA ?_; clear hA ac; intro ac hA
 refine wn <| wp_seq <| wr <| st_p (pA m 0) hA ?_; clear hA ac; intro ac hA
 refine st_s hA (Runs.callRow (E := 47) (sz := 7) (en := enRace) (l := (raceL E)) (fun _ => by kernel_rfl) hW (e_rall_ m Ae ce E Ak ck C bg G bt T w2 ((hW).getG 0 rfl) ((hW).glt _ (List.mem_of_getElem? (i := 0) rfl)) (by first | omega | assumption) (by first | omega | assumption)) ?_); clear hA ac hW; intro A4 c5 w3 hW hcc5 hfw3 ac hA
 refine st_p (vI .i64 (((raceL E).length : Nat) : Int)) hA fun ac hA => st_p (vI .i64 0) hA fun ac hA => wn <| wp_block ?_
 have hW := hW.addNil 47 7 enRace
 refine wp_loop_m (fun m_ ac_ wl_ => ∃ k : Nat, ∃ mm : List (Int × Int), ∃ d : List Race, ∃ A : Option Addr, ∃ cc : Nat, m_ = (raceL E).length - k ∧ (k ≤ (raceL E).length) ∧ (∀ a, (look mm a).getD 0 = cntA ((raceL E).take k) a) ∧ (d = fstL ((raceL E).take k)) ∧ (d.length ≤ cc) ∧ Fm 32 [] [(0, pA m 0), (2, vS A d.length cc), (3, vM (some b1)), (8, vS A4 (raceL E).length c5), (9, vI .i64 (((raceL E).length : Nat) : Int)), (10, vI .i64 (k : Int))] ac_ ∧ Ws w No [rowR 47 7 enRace (vS A d.length cc) d, rowR 47 7 enRace (vS A4 (raceL E).length c5) (raceL E), mapR b1 (fun a : Int => vI .u32 a) (fun a : Int => vI .i64 a) mm] [OrdR m Ae ce E Ak ck C bg G bt T] wl_) _ ⟨0, [], [], none, 0, rfl, by omega, by intro a_; rfl, by rfl, by simp, hA.sub (by and_intros <;> first | kernel_rfl | trivial), (hW.pick [0, 1, 2] (by decide) rfl).pickG [0] rfl⟩ ?_
 clear hA ac hW; rintro m_ ac w7 ⟨k, mm, d, A, cc, rfl, hk, hm, hd, hcc, hA, hW⟩
 have hdl_ : d.length ≤ k := by rw [hd]; exact Nat.le_trans (fst_len _) (by rw [List.length_take]; omega)
 refine wr <| st_p (vB (decide ((k : Int) < ((((raceL E).length : Nat) : Int) : Int)))) hA ?_; clear hA ac; intro ac hA
 refine wn <| wp_seq <| wp_cond_split (t := decide ((k : Int) < ((((raceL E).length : Nat) : Int) : Int))) (hA.eval (by kernel_rfl)) (fun h8 => ?_) (fun h8 => ?_)
 ·
  have h8 := of_decide_eq_true h8
  refine wp_skip <| thenN <| wp_seq <| wp_block <| wr ?_
  obtain ⟨y9, hy9⟩ : ∃ y, (raceL E)[k]? = some y := ⟨_, List.getElem?_eq_getElem (by first | omega | (simp; done) | (simp; omega))⟩
  obtain ⟨b10, o11, rfl, hbb10⟩ := row_some (rowR_at ((hW).get 1 rfl) elt_Race.len) hy9
  refine st_q (vP (some ⟨b10, o11 + k * 7, none⟩)) hA hW.cls (Rd.indexAddr (e := 47) (sz := 7) (b := b10) (off := o11) (n := (raceL E).length) (c := c5) (k := k) (by kernel_rfl) (by kernel_rfl) (by first | omega | (simp; done) | (simp; omega)) (fun _ => by kernel_rfl) (fun _ => by kernel_rfl)) fun ac hA => st_q (vA #[vI .i64 y9.i, vI .i64 y9.j, vI .u32 y9.addr, vI .i64 y9.p.a.f, vI .i64 y9.p.a.pc, vI .i64 y9.p.b.f, vI .i64 y9.p.b.pc]) hA hW.cls (Rd.loadRow (b := b10) (i := o11 + k * 7) (xs := [vI .i64 y9.i, vI .i64 y9.j, vI .u32 y9.addr, vI .i64 y9.p.a.f, vI .i64 y9.p.a.pc, vI .i64 y9.p.b.f, vI .i64 y9.p.b.pc]) (by kernel_rfl) (fun _ hw => row_ld (rowR_at ((hw.1).get 1 rfl) elt_Race.len) hy9 (Fr.refl No _) (fun h => h) 0 7 (by kernel_rfl)) (by kernel_rfl)) fun ac hA => st_s hA (Runs.cells (fun b => pA b 0) #[vI .i64 0, vI .i64 0, vI .u32 0, vI .i64 0, vI .i64 0, vI .i64 0, vI .i64 0] 47 (fun _ => by kernel_rfl) hW ?_); clear hA ac hW; intro b12 w13 hW hb12 hfw13 ac hA
  refine st_s hA (Runs.store (v := vA #[vI .i64 y9.i, vI .i64 y9.j, vI .u32 y9.addr, vI .i64 y9.p.a.f, vI .i64 y9.p.a.pc, vI .i64 y9.p.b.f, vI .i64 y9.p.b.pc]) (b := b12) (j := 0) (n := 7) (cs' := #[vI .i64 y9.i, vI .i64 y9.j, vI .u32 y9.addr, vI .i64 y9.p.a.f, vI .i64 y9.p.a.pc, vI .i64 y9.p.b.f, vI .i64 y9.p.b.pc]) (H' := [Cel b12 #[vI .i64 y9.i, vI .i64 y9.j, vI .u32 y9.addr, vI .i64 y9.p.a.f, vI .i64 y9.p.a.pc, vI .i64 y9.p.b.f, vI .i64 y9.p.b.pc] 47, rowR 47 7 enRace (vS A d.length cc) d, rowR 47 7 enRace (vS (some ⟨b10, o11, none⟩) (raceL E).length c5) (raceL E), mapR b1 (fun a : Int => vI .u32 a) (fun a : Int => vI .i64 a) mm]) (by kernel_rfl) (by kernel_rfl) (by kernel_rfl) (by kernel_rfl) (by kernel_rfl) hW 0 (by rfl) (Nat.le_of_ble_eq_true (by kernel_rfl)) (by kernel_rfl) (by rfl) ?_); clear hA ac hW; intro w14 hW ac hA
  refine wn <| wp_seq ?_
  have hlk_ := hm y9.addr; have hcn_ := cntA_nn ((raceL E).take k) y9.addr; have hcl_ := cntA_le ((raceL E).take k) y9.addr; rw [List.length_take] at hcl_
  refine wp_region_lit <| st_p (vM (some b1)) hA fun ac hA => st_p (pA b12 2) hA fun ac hA => st_q (vI .u32 y9.addr) hA hW.cls (rl b12 2 0) fun ac hA => st_q (vI .i64 ((look mm (y9.addr : Int)).getD 0)) hA hW.cls ((Rd.lookup (k := 41) (e := 3) (ek := (fun a : Int => vI .u32 a)) (ev := (fun a : Int => vI .i64 a)) (m := mm) (z := vI .i64 0) (y9.addr : Int) false (by kernel_rfl) (by kernel_rfl) (KeyE.int (by kernel_rfl)) (by kernel_rfl) (fun _ => by kernel_rfl) (fun _ hw => (hw.1).get 3 rfl)).cast (by generalize look mm (y9.addr : Int) = o_; cases o_ <;> rfl)) fun ac hA => st_q (vI .i64 ((((look mm (y9.addr : Int)).getD 0) : Int) + 1)) hA hW.cls (Rd.pureE (v0 := vI .i64 (IntKind.i64.wrap ((((look mm (y9.addr : Int)).getD 0) : Int) + 1))) (fun _ => by kernel_rfl) (congrArg (vI .i64) ((w_i64 (x := (((look mm (y9.addr : Int)).getD 0) : Int) + 1) (by omega) (by omega)).trans (by omega)))) fun ac hA => st_s hA (Runs.mapUpdate (k := 41) (e := 3) (ek := (fun a : Int => vI .u32 a)) (ev := (fun a : Int => vI .i64 a)) (m := mm) (y9.addr : Int) ((((look mm (y9.addr : Int)).getD 0) : Int) + 1 : Int) (by kernel_rfl) (by kernel_rfl) (by kernel_rfl) (KeyE.int (by kernel_rfl)) (by kernel_rfl) hW (i := 3) rfl ?_); clear hA ac hW; intro w15 hW ac hA
  refine wn <| wp_seq ?_
  have hl2_ : (look (put mm (y9.addr : Int) ((((look mm (y9.addr : Int)).getD 0) : Int) + 1 : Int)) y9.addr).getD 0 = cntA ((raceL E).take k) y9.addr + 1 := by rw [look_put, if_pos rfl]; show _ + 1 = _; rw [hlk_]
  refine wp_region_lit <| st_p (vM (some b1)) hA fun ac hA => st_p (pA b12 2) hA fun ac hA => st_q (vI .u32 y9.addr) hA hW.cls (rl b12 2 0) fun ac hA => st_q (vI .i64 ((look (put mm (y9.addr : Int) ((((look mm (y9.addr : Int)).getD 0) : Int) + 1 : Int)) (y9.addr : Int)).getD 0)) hA hW.cls ((Rd.lookup (k := 41) (e := 3) (ek := (fun a : Int => vI .u32 a)) (ev := (fun a : Int => vI .i64 a)) (m := (put mm (y9.addr : Int) ((((look mm (y9.addr : Int)).getD 0) : Int) + 1 : Int))) (z := vI .i64 0) (y9.addr : Int) false (by kernel_rfl) (by kernel_rfl) (KeyE.int (by kernel_rfl)) (by kernel_rfl) (fun _ => by kernel_rfl) (fun _ hw => (hw.1).get 3 rfl)).cast (by generalize look (put mm (y9.addr : Int) ((((look mm (y9.addr : Int)).getD 0) : Int) + 1 : Int)) (y9.addr : Int) = o_; cases o_ <;> rfl)) fun ac hA => st_p (vB ((((look (put mm (y9.addr : Int) ((((look mm (y9.addr : Int)).getD 0) : Int) + 1 : Int)) (y9.addr : Int)).getD 0) : Int) == (1 : Int))) hA fun ac hA => wn <| wp_cond_split (t := (((look (put mm (y9.addr : Int) ((((look mm (y9.addr : Int)).getD 0) : Int) + 1 : Int)) (y9.addr : Int)).getD 0) : Int) == (1 : Int)) (hA.eval (by kernel_rfl)) (fun h16 => ?_) (fun h16 => ?_)
  ·
   have h16 := eq_of_beq h16
   refine wp_region_lit <| st_p (vS A d.length cc) hA fun ac hA => st_q (vA #[vI .i64 y9.i, vI .i64 y9.j, vI .u32 y9.addr, vI .i64 y9.p.a.f, vI .i64 y9.p.a.pc, vI .i64 y9.p.b.f, vI .i64 y9.p.b.pc]) hA hW.cls (rl b12 0 0) fun ac hA => st_s hA (Runs.cells (fun b => vS (some ⟨b, 0, none⟩) 1 1) #[vI .i64 y9.i, vI .i64 y9.j, vI .u32 y9.addr, vI .i64 y9.p.a.f, vI .i64 y9.p.a.pc, vI .i64 y9.p.b.f, vI .i64 y9.p.b.pc] 47 (fun _ => by kernel_rfl) hW ?_); clear hA ac hW; intro b17 w18 hW hb17 hfw18 ac hA
   refine st_s hA (Runs.appOwn (B := (some ⟨b17, 0, none⟩)) (k := 1) (E := 47) (sz := 7) (en := enRace) (l := d) (m := ([y9] : List Race)) (i := 2) (by kernel_rfl) (by kernel_rfl) elt_Race (by kernel_rfl) hW rfl (rowAt_cel ((hW).cel 0 rfl) ([y9] : List Race) (by rfl) elt_Race.len) (by first | omega | (simp; done) | (simp; omega)) (by first | omega | (simp; done) | (simp; omega)) ?_); clear hA ac hW; intro A19 c20 w21 hW hcc20 ac hA
   refine st_p (vS A19 (d ++ ([y9] : List Race)).length c20) hA ?_; clear hA ac; intro ac hA
   refine wpList_nil <| blkN <| thenN <| wp_region_lit <| st_q (vI .i64 ((k + 1 : Nat) : Int)) hA hW.cls (Rd.pureE (v0 := vI .i64 (IntKind.i64.wrap ((k : Int) + 1))) (fun _ => by kernel_rfl) (congrArg (vI .i64) ((w_i64 (x := (k : Int) + 1) (by omega) (by omega)).trans (by omega)))) fun ac hA => st_p (vI .i64 ((k + 1 : Nat) : Int)) hA fun ac hA => wn ?_
   exact ⟨(raceL E).length - (k + 1), by omega, k + 1, put mm (y9.addr : Int) ((((look mm (y9.addr : Int)).getD 0) : Int) + 1 : Int), d ++ ([y9] : List Race), A19, c20, rfl, by omega, by intro a_; rw [tk_snoc hy9, cntA_snoc, look_put]; by_cases e_ : y9.addr = a_; (rw [if_pos e_, if_pos e_]; show _ + 1 = _; rw [← e_, hlk_]); (rw [if_neg e_, if_neg e_, hm a_]; omega), by rw [tk_snoc hy9, fstL_snoc, if_pos (by omega), ← hd], by exact hcc20, hA.sub (by and_intros <;> first | kernel_rfl | trivial), (hW.pick [2, 3, 4] (by decide) rfl).pickG [0] rfl⟩
  have h16 := ne_of_beq_false h16
  refine wp_skip <| blkN <| thenN <| wp_region_lit <| st_q (vI .i64 ((k + 1 : Nat) : Int)) hA hW.cls (Rd.pureE (v0 := vI .i64 (IntKind.i64.wrap ((k : Int) + 1))) (fun _ => by kernel_rfl) (congrArg (vI .i64) ((w_i64 (x := (k : Int) + 1) (by omega) (by omega)).trans (by omega)))) fun ac hA => st_p (vI .i64 ((k + 1 : Nat) : Int)) hA fun ac hA => wn ?_
  exact ⟨(raceL E).length - (k + 1), by omega, k + 1, put mm (y9.addr : Int) ((((look mm (y9.addr : Int)).getD 0) : Int) + 1 : Int), d, A, cc, rfl, by omega, by intro a_; rw [tk_snoc hy9, cntA_snoc, look_put]; by_cases e_ : y9.addr = a_; (rw [if_pos e_, if_pos e_]; show _ + 1 = _; rw [← e_, hlk_]); (rw [if_neg e_, if_neg e_, hm a_]; omega), by rw [tk_snoc hy9, fstL_snoc, if_neg (by omega), ← hd], by exact hcc, hA.sub (by and_intros <;> first | kernel_rfl | trivial), (hW.pick [1, 2, 3] (by decide) rfl).pickG [0] rfl⟩
 have h8 := of_decide_eq_false h8
 refine wp_exit <| thenX <| thenX <| blkX <| thenN <| wp_seq ?_
 have hdl2_ : d.length ≤ 10000 := by omega
 refine wp_region_lit <| st_p (vS A d.length cc) hA ?_; clear hA ac; intro ac hA
 refine st_s hA (Runs.call (fun _ => by kernel_rfl) (e_sortRace (A := A) (c := cc) (l := d) w7 (hW.get 0 rfl) (by omega)) ?_)
 rintro _ w22 ⟨rfl, l23, hperm_, hsrt_, hu_⟩; refine ⟨_, rfl, ?_⟩; have hlen_ := hperm_.length_eq; replace hW := hW.upd 0 rfl hu_ rfl; rw [← hlen_] at hW ⊢; clear hA ac; intro ac hA
 refine wn <| wr <| st_p (vS A l23.length cc) hA fun ac hA => st_p (vS A l23.length cc) hA fun ac hA => wn <| wp_ret <| r1 (vS A l23.length cc) hA ?_
 clear hA
 rw [List.take_of_length_le (by omega)] at hd; rw [hd] at hperm_; rw [show refL (raceL E) = l23 from (first_srt hperm_ hsrt_).symm]; exact ⟨_, rfl, hW.fresh 0 rfl (fun _ h => h), hW.fr⟩

end Go.Proofs.YtfkbjfbbigbacaaGreatDoor.L
