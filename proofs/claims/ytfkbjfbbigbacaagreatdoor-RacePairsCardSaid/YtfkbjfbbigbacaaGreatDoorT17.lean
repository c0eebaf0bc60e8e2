/- Contracts, walked by program over the engine's laws. -/
import Derived.Test.YtfkbjfbbigbacaaGreatDoorProg
import Derived.Test.YtfkbjfbbigbacaaGreatDoorT16
namespace Go.Proofs.YtfkbjfbbigbacaaGreatDoor.L
open Go.RowKit
open Go.Value renaming int → vI, slice → vS, bool → vB, pointer → vP, func → vF, agg → vA, map → vM, tuple → vT

theorem cmp_neg (a b : Site) : b.cmp a = - a.cmp b := by unfold Site.cmp orI cmpI; (repeat' split) <;> omega
theorem told_ok {a b : Event} (ha : EvOk a) (hb : EvOk b) : Pair.told (Pair.of a.site b.site) = Pair.of a.site b.site := by
  have h1 : Site.ok a.site = true := by unfold EvOk at ha; cases h : Site.ok a.site; (rw [h] at ha; exact absurd ha.2.2.2.2.1 (by decide)); rfl
  have h2 : Site.ok b.site = true := by unfold EvOk at hb; cases h : Site.ok b.site; (rw [h] at hb; exact absurd hb.2.2.2.2.1 (by decide)); rfl
  have h3 := cmp_neg a.site b.site
  unfold Pair.told
  rw [if_pos]
  unfold Pair.ok Pair.of
  by_cases h : 0 < a.site.cmp b.site
  · rw [if_pos h, h1, h2, decide_eq_true (by show b.site.cmp a.site ≤ 0; omega)]; rfl
  · rw [if_neg h, h1, h2, decide_eq_true (by show a.site.cmp b.site ≤ 0; omega)]; rfl
theorem mk_of {E : List Event} (hev : ∀ e ∈ E, EvOk e) {i j : Nat} {a b : Event} (ha : E[i]? = some a) (hb : E[j]? = some b) : mkR E (i : Int) (j : Int) = ⟨i, j, b.addr, Pair.of a.site b.site⟩ := by
  have h1 := (List.getElem?_eq_some_iff.1 ha).1; have h2 := (List.getElem?_eq_some_iff.1 hb).1
  unfold mkR
  rw [evAt_yes (i := (i : Int)) (y := a) (by omega) (by rwa [Int.toNat_natCast]), evAt_yes (i := (j : Int)) (y := b) (by omega) (by rwa [Int.toNat_natCast]), told_ok (hev _ (List.mem_of_getElem? ha)) (hev _ (List.mem_of_getElem? hb))]
theorem raceY_at {E : List Event} {i j : Nat} {a b : Event} (ha : E[i]? = some a) (hb : E[j]? = some b) : raceY E (evAt E (j : Int)) (i : Int) (j : Int) = (evConf a b && apartE E (i : Int) (j : Int)) := by
  have h1 := (List.getElem?_eq_some_iff.1 ha).1; have h2 := (List.getElem?_eq_some_iff.1 hb).1
  unfold raceY
  rw [evAt_yes (i := (i : Int)) (y := a) (by omega) (by rwa [Int.toNat_natCast]), evAt_yes (i := (j : Int)) (y := b) (by omega) (by rwa [Int.toNat_natCast])]
theorem raceP_snocY {E : List Event} {j : Nat} (h : j < E.length) : raceP E (j + 1) = raceP E j ++ (withY E j (evAt E (j : Int)) (j : Int)).map fun i => mkR E i (j : Int) := by
  rw [raceP_snoc]; unfold withE; rw [if_pos (by omega), Int.toNat_natCast]
set_option maxRecDepth 100000 in
theorem e_rFirsts1 (m : Nat) (Ae : Option Addr) (ce : Nat) (E : List Event) (Ak : Option Addr) (ck : Nat) (C : List SV) (bg : Nat) (G : List (Int × SV)) (bt : Nat) (T : List (Thing × SV)) (w : World) (ho_o : (OrdR m Ae ce E Ak ck C bg G bt T).p w) (hl_o : ∀ x_ ∈ (OrdR m Ae ce E Ak ck C bg G bt T).fp, x_ < w.heap.size) (hok : OrdOk E C G T) (hE100 : E.length ≤ 100) (hn1 : 1 ≤ (raceL E).length) (hsa : ∀ x ∈ raceL E, x.addr = (firstR E).addr) : Calls Tryz.prog 20 #[pA m 0] w (Fresh 47 7 enRace ([firstR E]) w) := by
 have _hu := ho_o; have _hv := hl_o; clear _hu _hv
 have _hu := hok; clear _hu
 have _hu := hE100; clear _hu
 have _hu := hn1; clear _hu
 have _hu := hsa; clear _hu
 have hbg_ := race_lil hE100
 refine enter_E 32 Tryz.func20 rfl rfl (by kernel_rfl) (L := [(0, pA m 0)]) (by kernel_rfl) ?_
 intro ac hA
 have hW := Ws.start w No
 have hW := hW.addG (OrdR m Ae ce E Ak ck C bg G bt T) ho_o hl_o (by simp)
 clear ho_o hl_o
 refine wr <| st_p (vS none 0 0) hA ?_; clear hA ac; intro ac hA
 refine wn <| wr <| st_s hA (Runs.makeMap (fun a : Int => vI .u32 a) (fun a : Int => vI .i64 a) hW ?_); clear hA ac hW; intro b1 w2 hW hb1 hfw2 ac hA
 refine st_p (vM (some b1)) hA ?_; clear hA ac; intro ac hA
 refine wn <| wp_seq <| wr <| st_p (pA m 0) hA ?_; clear hA ac; intro ac hA
 refine st_s hA (Runs.callRow (E := 47) (sz := 7) (en := enRace) (l := (raceL E)) (fun _ => by kernel_rfl) hW (e_rall_ m Ae ce E Ak ck C bg G bt T w2 ((hW).getG 0 rfl) ((hW).glt _ (List.mem_of_getElem? (i := 0) rfl)) (by first | omega | assumption) (by first | omega | assumption)) ?_); clear hA ac hW; intro A4 c5 w3 hW hcc5 hfw3 ac hA
 refine st_p (vI .i64 (((raceL E).length : Nat) : Int)) hA fun ac hA => st_p (vI .i64 0) hA fun ac hA => wn <| wp_block ?_
 have hW := hW.addNil 47 7 enRace
 refine wp_loop_m (fun m_ ac_ wl_ => ∃ k : Nat, ∃ mm : List (Int × Int), ∃ d : List Race, ∃ A : Option Addr, ∃ cc : Nat, m_ = (raceL E).length - k ∧ (k ≤ (raceL E).length) ∧ ((look mm (firstR E).addr).getD 0 = (k : Int)) ∧ (d = if k = 0 then [] else [firstR E]) ∧ (d.length ≤ cc) ∧ Fm 32 [] [(0, pA m 0), (2, vS A d.length cc), (3, vM (some b1)), (8, vS A4 (raceL E).length c5), (9, vI .i64 (((raceL E).length : Nat) : Int)), (10, vI .i64 (k : Int))] ac_ ∧ Ws w No [rowR 47 7 enRace (vS A d.length cc) d, rowR 47 7 enRace (vS A4 (raceL E).length c5) (raceL E), mapR b1 (fun a : Int => vI .u32 a) (fun a : Int => vI .i64 a) mm] [OrdR m Ae ce E Ak ck C bg G bt T] wl_) _ ⟨0, [], [], none, 0, rfl, by omega, by rfl, by rfl, by simp, hA.sub (by and_intros <;> first | kernel_rfl | trivial), (hW.pick [0, 1, 2] (by decide) rfl).pickG [0] rfl⟩ ?_
 clear hA ac hW; rintro m_ ac w7 ⟨k, mm, d, A, cc, rfl, hk, hm, hd, hcc, hA, hW⟩
 have hdl_ : d.length ≤ 1 := by rw [hd]; split <;> simp
 refine wr <| st_p (vB (decide ((k : Int) < ((((raceL E).length : Nat) : Int) : Int)))) hA ?_; clear hA ac; intro ac hA
 refine wn <| wp_seq <| wp_cond_split (t := decide ((k : Int) < ((((raceL E).length : Nat) : Int) : Int))) (hA.eval (by kernel_rfl)) (fun h8 => ?_) (fun h8 => ?_)
 ·
  have h8 := of_decide_eq_true h8
  refine wp_skip <| thenN <| wp_seq <| wp_block <| wr ?_
  obtain ⟨y9, hy9⟩ : ∃ y, (raceL E)[k]? = some y := ⟨_, List.getElem?_eq_getElem (by first | omega | (simp; done) | (simp; omega))⟩
  obtain ⟨b10, o11, rfl, hbb10⟩ := row_some (rowR_at ((hW).get 1 rfl) elt_Race.len) hy9
  refine st_q (vP (some ⟨b10, o11 + k * 7, none⟩)) hA hW.cls (Rd.indexAddr (e := 47) (sz := 7) (b := b10) (off := o11) (n := (raceL E).length) (c := c5) (k := k) (by kernel_rfl) (by kernel_rfl) (by first | omega | (simp; done) | (simp; omega)) (fun _ => by kernel_rfl) (fun _ => by kernel_rfl)) fun ac hA => st_q (vA #[vI .i64 y9.i, vI .i64 y9.j, vI .u32 y9.addr, vI .i64 y9.p.a.f, vI .i64 y9.p.a.pc, vI .i64 y9.p.b.f, vI .i64 y9.p.b.pc]) hA hW.cls (Rd.loadRow (b := b10) (i := o11 + k * 7) (xs := [vI .i64 y9.i, vI .i64 y9.j, vI .u32 y9.addr, vI .i64 y9.p.a.f, vI .i64 y9.p.a.pc, vI .i64 y9.p.b.f, vI .i64 y9.p.b.pc]) (by kernel_rfl) (fun _ hw => row_ld (rowR_at ((hw.1).get 1 rfl) elt_Race.len) hy9 (Fr.refl No _) (fun h => h) 0 7 (by kernel_rfl)) (by kernel_rfl)) fun ac hA => st_s hA (Runs.cells (fun b => pA b 0) #[vI .i64 0, vI .i64 0, vI .u32 0, vI .i64 0, vI .i64 0, vI .i64 0, vI .i64 0] 47 (fun _ => by kernel_rfl) hW ?_); clear hA ac hW; intro b12 w13 hW hb12 hfw13 ac hA
  refine st_s hA (Runs.store (v := vA #[vI .i64 y9.i, vI .i64 y9.j, vI .u32 y9.addr, vI .i64 y9.p.a.f, vI .i64 y9.p.a.pc, vI .i64 y9.p.b.f, vI .i64 y9.p.b.pc]) (b := b12) (j := 0) (n := 7) (cs' := #[vI .i64 y9.i, vI .i64 y9.j, vI .u32 y9.addr, vI .i64 y9.p.a.f, vI .i64 y9.p.a.pc, vI .i64 y9.p.b.f, vI .i64 y9.p.b.pc]) (H' := [Cel b12 #[vI .i64 y9.i, vI .i64 y9.j, vI .u32 y9.addr, vI .i64 y9.p.a.f, vI .i64 y9.p.a.pc, vI .i64 y9.p.b.f, vI .i64 y9.p.b.pc] 47, rowR 47 7 enRace (vS A d.length cc) d, rowR 47 7 enRace (vS (some ⟨b10, o11, none⟩) (raceL E).length c5) (raceL E), mapR b1 (fun a : Int => vI .u32 a) (fun a : Int => vI .i64 a) mm]) (by kernel_rfl) (by kernel_rfl) (by kernel_rfl) (by kernel_rfl) (by kernel_rfl) hW 0 (by rfl) (Nat.le_of_ble_eq_true (by kernel_rfl)) (by kernel_rfl) (by rfl) ?_); clear hA ac hW; intro w14 hW ac hA
  refine wn <| wp_seq ?_
  have hsy_ : y9.addr = (firstR E).addr := hsa _ (List.mem_of_getElem? hy9); have hlk_ : (look mm y9.addr).getD 0 = (k : Int) := by rw [hsy_]; exact hm
  refine wp_region_lit <| st_p (vM (some b1)) hA fun ac hA => st_p (pA b12 2) hA fun ac hA => st_q (vI .u32 y9.addr) hA hW.cls (rl b12 2 0) fun ac hA => st_q (vI .i64 ((look mm (y9.addr : Int)).getD 0)) hA hW.cls ((Rd.lookup (k := 41) (e := 3) (ek := (fun a : Int => vI .u32 a)) (ev := (fun a : Int => vI .i64 a)) (m := mm) (z := vI .i64 0) (y9.addr : Int) false (by kernel_rfl) (by kernel_rfl) (KeyE.int (by kernel_rfl)) (by kernel_rfl) (fun _ => by kernel_rfl) (fun _ hw => (hw.1).get 3 rfl)).cast (by generalize look mm (y9.addr : Int) = o_; cases o_ <;> rfl)) fun ac hA => st_q (vI .i64 ((((look mm (y9.addr : Int)).getD 0) : Int) + 1)) hA hW.cls (Rd.pureE (v0 := vI .i64 (IntKind.i64.wrap ((((look mm (y9.addr : Int)).getD 0) : Int) + 1))) (fun _ => by kernel_rfl) (congrArg (vI .i64) ((w_i64 (x := (((look mm (y9.addr : Int)).getD 0) : Int) + 1) (by omega) (by omega)).trans (by omega)))) fun ac hA => st_s hA (Runs.mapUpdate (k := 41) (e := 3) (ek := (fun a : Int => vI .u32 a)) (ev := (fun a : Int => vI .i64 a)) (m := mm) (y9.addr : Int) ((((look mm (y9.addr : Int)).getD 0) : Int) + 1 : Int) (by kernel_rfl) (by kernel_rfl) (by kernel_rfl) (KeyE.int (by kernel_rfl)) (by kernel_rfl) hW (i := 3) rfl ?_); clear hA ac hW; intro w15 hW ac hA
  refine wn <| wp_seq ?_
  have hl2_ : (look (put mm (y9.addr : Int) ((((look mm (y9.addr : Int)).getD 0) : Int) + 1 : Int)) y9.addr).getD 0 = (k : Int) + 1 := by rw [look_put, if_pos rfl]; show _ + 1 = _; rw [hlk_]
  refine wp_region_lit <| st_p (vM (some b1)) hA fun ac hA => st_p (pA b12 2) hA fun ac hA => st_q (vI .u32 y9.addr) hA hW.cls (rl b12 2 0) fun ac hA => st_q (vI .i64 ((look (put mm (y9.addr : Int) ((((look mm (y9.addr : Int)).getD 0) : Int) + 1 : Int)) (y9.addr : Int)).getD 0)) hA hW.cls ((Rd.lookup (k := 41) (e := 3) (ek := (fun a : Int => vI .u32 a)) (ev := (fun a : Int => vI .i64 a)) (m := (put mm (y9.addr : Int) ((((look mm (y9.addr : Int)).getD 0) : Int) + 1 : Int))) (z := vI .i64 0) (y9.addr : Int) false (by kernel_rfl) (by kernel_rfl) (KeyE.int (by kernel_rfl)) (by kernel_rfl) (fun _ => by kernel_rfl) (fun _ hw => (hw.1).get 3 rfl)).cast (by generalize look (put mm (y9.addr : Int) ((((look mm (y9.addr : Int)).getD 0) : Int) + 1 : Int)) (y9.addr : Int) = o_; cases o_ <;> rfl)) fun ac hA => st_p (vB ((((look (put mm (y9.addr : Int) ((((look mm (y9.addr : Int)).getD 0) : Int) + 1 : Int)) (y9.addr : Int)).getD 0) : Int) == (1 : Int))) hA fun ac hA => wn <| wp_cond_split (t := (((look (put mm (y9.addr : Int) ((((look mm (y9.addr : Int)).getD 0) : Int) + 1 : Int)) (y9.addr : Int)).getD 0) : Int) == (1 : Int)) (hA.eval (by kernel_rfl)) (fun h16 => ?_) (fun h16 => ?_)
  ·
   have h16 := eq_of_beq h16
   refine wp_region_lit <| st_p (vS A d.length cc) hA fun ac hA => st_q (vA #[vI .i64 y9.i, vI .i64 y9.j, vI .u32 y9.addr, vI .i64 y9.p.a.f, vI .i64 y9.p.a.pc, vI .i64 y9.p.b.f, vI .i64 y9.p.b.pc]) hA hW.cls (rl b12 0 0) fun ac hA => st_s hA (Runs.cells (fun b => vS (some ⟨b, 0, none⟩) 1 1) #[vI .i64 y9.i, vI .i64 y9.j, vI .u32 y9.addr, vI .i64 y9.p.a.f, vI .i64 y9.p.a.pc, vI .i64 y9.p.b.f, vI .i64 y9.p.b.pc] 47 (fun _ => by kernel_rfl) hW ?_); clear hA ac hW; intro b17 w18 hW hb17 hfw18 ac hA
   refine st_s hA (Runs.appOwn (B := (some ⟨b17, 0, none⟩)) (k := 1) (E := 47) (sz := 7) (en := enRace) (l := d) (m := ([y9] : List Race)) (i := 2) (by kernel_rfl) (by kernel_rfl) elt_Race (by kernel_rfl) hW rfl (rowAt_cel ((hW).cel 0 rfl) ([y9] : List Race) (by rfl) elt_Race.len) (by first | omega | (simp; done) | (simp; omega)) (by first | omega | (simp; done) | (simp; omega)) ?_); clear hA ac hW; intro A19 c20 w21 hW hcc20 ac hA
   refine st_p (vS A19 (d ++ ([y9] : List Race)).length c20) hA ?_; clear hA ac; intro ac hA
   refine wpList_nil <| blkN <| thenN <| wp_region_lit <| st_q (vI .i64 ((k + 1 : Nat) : Int)) hA hW.cls (Rd.pureE (v0 := vI .i64 (IntKind.i64.wrap ((k : Int) + 1))) (fun _ => by kernel_rfl) (congrArg (vI .i64) ((w_i64 (x := (k : Int) + 1) (by omega) (by omega)).trans (by omega)))) fun ac hA => st_p (vI .i64 ((k + 1 : Nat) : Int)) hA fun ac hA => wn ?_
   exact ⟨(raceL E).length - (k + 1), by omega, k + 1, put mm (y9.addr : Int) ((((look mm (y9.addr : Int)).getD 0) : Int) + 1 : Int), d ++ ([y9] : List Race), A19, c20, rfl, by omega, by rw [← hsy_, hl2_]; omega, by rw [if_neg (by omega)]; rw [hd, if_pos (show k = 0 from by omega)]; rw [(first_yes (by rw [← show k = 0 from by omega]; exact hy9)).1]; rfl, by exact hcc20, hA.sub (by and_intros <;> first | kernel_rfl | trivial), (hW.pick [2, 3, 4] (by decide) rfl).pickG [0] rfl⟩
  have h16 := ne_of_beq_false h16
  refine wp_skip <| blkN <| thenN <| wp_region_lit <| st_q (vI .i64 ((k + 1 : Nat) : Int)) hA hW.cls (Rd.pureE (v0 := vI .i64 (IntKind.i64.wrap ((k : Int) + 1))) (fun _ => by kernel_rfl) (congrArg (vI .i64) ((w_i64 (x := (k : Int) + 1) (by omega) (by omega)).trans (by omega)))) fun ac hA => st_p (vI .i64 ((k + 1 : Nat) : Int)) hA fun ac hA => wn ?_
  exact ⟨(raceL E).length - (k + 1), by omega, k + 1, put mm (y9.addr : Int) ((((look mm (y9.addr : Int)).getD 0) : Int) + 1 : Int), d, A, cc, rfl, by omega, by rw [← hsy_, hl2_]; omega, by rw [if_neg (by omega)]; rw [hd, if_neg (show ¬ k = 0 from by omega)], by exact hcc, hA.sub (by and_intros <;> first | kernel_rfl | trivial), (hW.pick [1, 2, 3] (by decide) rfl).pickG [0] rfl⟩
 have h8 := of_decide_eq_false h8
 refine wp_exit <| thenX <| thenX <| blkX <| thenN <| wp_seq ?_
 have hd1_ : d = [firstR E] := by rw [hd, if_neg (by omega)]
 have hdl1_ : d.length = 1 := by rw [hd1_]; rfl
 refine wp_region_lit <| st_p (vS A d.length cc) hA ?_; clear hA ac; intro ac hA
 refine st_s hA (Runs.callN (v := vT #[]) (fun _ => by kernel_rfl) hW (e_sort1 A cc d w7 (rowR_at ((hW).get 0 rfl) elt_Race.len) (own_cap ((hW).get 0 rfl)) (by first | omega | assumption)) ?_); clear hA ac hW; intro w22 hW hfw22 ac hA
 refine wn <| wr <| st_p (vS A d.length cc) hA fun ac hA => st_p (vS A d.length cc) hA fun ac hA => wn <| wp_ret <| r1 (vS A d.length cc) hA ?_
 clear hA
 rw [← hd1_]; exact ⟨_, rfl, hW.fresh 0 rfl (fun _ h => h), hW.fr⟩

set_option maxRecDepth 100000 in
theorem e_order07 (a : Site) (b : Site) (w : World)  : Calls Tryz.prog 61 #[a.v, b.v] w (fun e w' => e = .returned (vI .i64 (Site.cmp a b)) ∧ Fr No w w') := by
 refine enter_E 29 Tryz.func61 rfl rfl (by kernel_rfl) (L := [(0, a.v), (1, b.v)]) (by kernel_rfl) ?_
 intro ac hA
 have hW := Ws.start w No
 refine wr <| st_s hA (Runs.cells (fun b => pA b 0) #[vI .i64 a.f, vI .i64 a.pc] 43 (fun _ => by kernel_rfl) hW ?_); clear hA ac hW; intro b1 w2 hW hb1 hfw2 ac hA
 refine st_s hA (Runs.cells (fun b => pA b 0) #[vI .i64 b.f, vI .i64 b.pc] 43 (fun _ => by kernel_rfl) hW ?_); clear hA ac hW; intro b3 w4 hW hb3 hfw4 ac hA
 refine st_p (vI .i64 0) hA ?_; clear hA ac; intro ac hA
 refine wn <| wp_seq <| wp_block <| wr <| st_q (vA #[vI .i64 a.f, vI .i64 a.pc]) hA hW.cls (rl b1 0 1) fun ac hA => st_q (vA #[vI .i64 b.f, vI .i64 b.pc]) hA hW.cls (rl b3 0 0) fun ac hA => st_q (vB (decide (a = b))) hA hW.cls (Rd.eqS (u := a.v) (v := b.v) (by kernel_rfl) (by kernel_rfl) rfl rfl (by kernel_rfl) (fun w => eq_Site w a b)) fun ac hA => st_p (vB (decide (a = b))) hA fun ac hA => wn <| wp_cond_split (t := decide (a = b)) (hA.eval (by kernel_rfl)) (fun h5 => ?_) (fun h5 => ?_)
 ·
  have h5 := of_decide_eq_true h5
  have h5e := (Site.eqi _ _).1 h5
  refine wr <| st_p (vI .i64 0) hA ?_; clear hA ac; intro ac hA
  refine wn <| wp_ret <| blkR <| thenR <| r1 (vI .i64 0) hA ?_
  clear hA
  exact ⟨retv (by first | (simp [Site.cmp, orI, cmpI]; done) | (simp [Site.cmp, orI, cmpI]; omega) | (simp [Site.cmp, orI, cmpI, *]; done) | (simp [Site.cmp, orI, cmpI, *]; omega) | (simp_all [Site.cmp, orI, cmpI]; done) | (simp_all [Site.cmp, orI, cmpI]; omega) | (refine congrArg vB (Bool.eq_iff_iff.2 ?_); simp [Site.cmp, orI, cmpI]; (try simp only [*]); (try simp); omega) | (simp [Site.cmp, orI, cmpI]; repeat' split; all_goals omega)), hW.fr⟩
 have h5 := of_decide_eq_false h5
 have h5e := fun e => h5 ((Site.eqi _ _).2 e)
 refine wr <| st_p (pA b1 0) hA fun ac hA => st_q (vI .i64 a.f) hA hW.cls (rl b1 0 1) fun ac hA => st_p (pA b3 0) hA fun ac hA => st_q (vI .i64 b.f) hA hW.cls (rl b3 0 0) fun ac hA => st_p (vB (decide ((a.f : Int) < (b.f : Int)))) hA fun ac hA => st_p (vB (decide ((a.f : Int) < (b.f : Int)))) hA fun ac hA => ?_
 rcases Bool.eq_false_or_eq_true (decide ((a.f : Int) < (b.f : Int))) with h6 | h6
 ·
  rw [h6] at hA
  have h6 := of_decide_eq_true h6
  refine st_k hA fun ac hA => st_k hA fun ac hA => st_k hA fun ac hA => st_k hA fun ac hA => st_k hA fun ac hA => st_k hA fun ac hA => st_k hA fun ac hA => st_k hA fun ac hA => st_k hA fun ac hA => st_k hA fun ac hA => st_k hA fun ac hA => st_k hA fun ac hA => st_p (vB true) hA fun ac hA => st_p (vB true) hA fun ac hA => wn <| wp_cond_true (hA.eval (by kernel_rfl)) <| wr <| st_p (vI .i64 (-1)) hA ?_; clear hA ac; intro ac hA
  refine wn <| wp_ret <| blkR <| thenR <| r1 (vI .i64 (-1)) hA ?_
  clear hA
  exact ⟨retv (by first | (simp [Site.cmp, orI, cmpI]; done) | (simp [Site.cmp, orI, cmpI]; omega) | (simp [Site.cmp, orI, cmpI, *]; done) | (simp [Site.cmp, orI, cmpI, *]; omega) | (simp_all [Site.cmp, orI, cmpI]; done) | (simp_all [Site.cmp, orI, cmpI]; omega) | (refine congrArg vB (Bool.eq_iff_iff.2 ?_); simp [Site.cmp, orI, cmpI]; (try simp only [*]); (try simp); omega) | (simp [Site.cmp, orI, cmpI]; repeat' split; all_goals omega)), hW.fr⟩
 rw [h6] at hA
 have h6 := of_decide_eq_false h6
 refine st_p (pA b1 0) hA fun ac hA => st_q (vI .i64 a.f) hA hW.cls (rl b1 0 1) fun ac hA => st_p (pA b3 0) hA fun ac hA => st_q (vI .i64 b.f) hA hW.cls (rl b3 0 0) fun ac hA => st_p (vB ((a.f : Int) == (b.f : Int))) hA fun ac hA => st_p (vB ((a.f : Int) == (b.f : Int))) hA fun ac hA => ?_
 rcases Bool.eq_false_or_eq_true ((a.f : Int) == (b.f : Int)) with h7 | h7
 ·
  rw [h7] at hA
  have h7 := eq_of_beq h7
  refine st_p (pA b1 1) hA fun ac hA => st_q (vI .i64 a.pc) hA hW.cls (rl b1 1 1) fun ac hA => st_p (pA b3 1) hA fun ac hA => st_q (vI .i64 b.pc) hA hW.cls (rl b3 1 0) fun ac hA => st_p (vB (decide ((a.pc : Int) < (b.pc : Int)))) hA fun ac hA => st_p (vB (decide ((a.pc : Int) < (b.pc : Int)))) hA fun ac hA => st_p (vB (decide ((a.pc : Int) < (b.pc : Int)))) hA fun ac hA => st_p (vB (decide ((a.pc : Int) < (b.pc : Int)))) hA fun ac hA => wn <| wp_cond_split (t := decide ((a.pc : Int) < (b.pc : Int))) (hA.eval (by kernel_rfl)) (fun h8 => ?_) (fun h8 => ?_)
  ·
   have h8 := of_decide_eq_true h8
   refine wr <| st_p (vI .i64 (-1)) hA ?_; clear hA ac; intro ac hA
   refine wn <| wp_ret <| blkR <| thenR <| r1 (vI .i64 (-1)) hA ?_
   clear hA
   exact ⟨retv (by first | (simp [Site.cmp, orI, cmpI]; done) | (simp [Site.cmp, orI, cmpI]; omega) | (simp [Site.cmp, orI, cmpI, *]; done) | (simp [Site.cmp, orI, cmpI, *]; omega) | (simp_all [Site.cmp, orI, cmpI]; done) | (simp_all [Site.cmp, orI, cmpI]; omega) | (refine congrArg vB (Bool.eq_iff_iff.2 ?_); simp [Site.cmp, orI, cmpI]; (try simp only [*]); (try simp); omega) | (simp [Site.cmp, orI, cmpI]; repeat' split; all_goals omega)), hW.fr⟩
  have h8 := of_decide_eq_false h8
  refine wp_skip <| blkN <| thenN <| wr <| st_p (vI .i64 1) hA ?_; clear hA ac; intro ac hA
  refine wn <| wp_ret <| r1 (vI .i64 1) hA ?_
  clear hA
  exact ⟨retv (by first | (simp [Site.cmp, orI, cmpI]; done) | (simp [Site.cmp, orI, cmpI]; omega) | (simp [Site.cmp, orI, cmpI, *]; done) | (simp [Site.cmp, orI, cmpI, *]; omega) | (simp_all [Site.cmp, orI, cmpI]; done) | (simp_all [Site.cmp, orI, cmpI]; omega) | (refine congrArg vB (Bool.eq_iff_iff.2 ?_); simp [Site.cmp, orI, cmpI]; (try simp only [*]); (try simp); omega) | (simp [Site.cmp, orI, cmpI]; repeat' split; all_goals omega)), hW.fr⟩
 rw [h7] at hA
 have h7 := ne_of_beq_false h7
 refine st_k hA fun ac hA => st_k hA fun ac hA => st_k hA fun ac hA => st_k hA fun ac hA => st_k hA fun ac hA => st_p (vB false) hA fun ac hA => st_p (vB false) hA fun ac hA => st_p (vB false) hA fun ac hA => wn <| wp_cond_false (hA.eval (by kernel_rfl)) <| wp_skip <| blkN <| thenN <| wr <| st_p (vI .i64 1) hA ?_; clear hA ac; intro ac hA
 refine wn <| wp_ret <| r1 (vI .i64 1) hA ?_
 clear hA
 exact ⟨retv (by first | (simp [Site.cmp, orI, cmpI]; done) | (simp [Site.cmp, orI, cmpI]; omega) | (simp [Site.cmp, orI, cmpI, *]; done) | (simp [Site.cmp, orI, cmpI, *]; omega) | (simp_all [Site.cmp, orI, cmpI]; done) | (simp_all [Site.cmp, orI, cmpI]; omega) | (refine congrArg vB (Bool.eq_iff_iff.2 ?_); simp [Site.cmp, orI, cmpI]; (try simp only [*]); (try simp); omega) | (simp [Site.cmp, orI, cmpI]; repeat' split; all_goals omega)), hW.fr⟩

set_option maxRecDepth 100000 in
theorem e_of07 (a : Site) (b : Site) (w : World)  : Calls Tryz.prog 34 #[a.v, b.v] w (fun e w' => e = .returned ((Pair.of a b).v) ∧ Fr No w w') := by
 refine enter_E 15 Tryz.func34 rfl rfl (by kernel_rfl) (L := [(0, a.v), (1, b.v)]) (by kernel_rfl) ?_
 intro ac hA
 have hW := Ws.start w No
 refine wr <| st_s hA (Runs.cells (fun b => pA b 0) #[vI .i64 a.f, vI .i64 a.pc] 43 (fun _ => by kernel_rfl) hW ?_); clear hA ac hW; intro b1 w2 hW hb1 hfw2 ac hA
 refine st_s hA (Runs.cells (fun b => pA b 0) #[vI .i64 b.f, vI .i64 b.pc] 43 (fun _ => by kernel_rfl) hW ?_); clear hA ac hW; intro b3 w4 hW hb3 hfw4 ac hA
 refine st_s hA (Runs.cells (fun b => pA b 0) #[vI .i64 0, vI .i64 0, vI .i64 0, vI .i64 0] 45 (fun _ => by kernel_rfl) hW ?_); clear hA ac hW; intro b5 w6 hW hb5 hfw6 ac hA
 refine wn <| wp_seq <| wr <| st_q (vA #[vI .i64 a.f, vI .i64 a.pc]) hA hW.cls (rl b1 0 2) fun ac hA => st_q (vA #[vI .i64 b.f, vI .i64 b.pc]) hA hW.cls (rl b3 0 1) fun ac hA => st_s hA (Runs.callN (v := vI .i64 (Site.cmp a b)) (fun _ => by kernel_rfl) hW (e_order07 a b w6) ?_); clear hA ac hW; intro w7 hW hfw7 ac hA
 refine st_p (vB (decide ((Site.cmp a b : Int) > (0 : Int)))) hA ?_; clear hA ac; intro ac hA
 refine wn <| wp_cond_split (t := decide ((Site.cmp a b : Int) > (0 : Int))) (hA.eval (by kernel_rfl)) (fun h8 => ?_) (fun h8 => ?_)
 ·
  have h8 := of_decide_eq_true h8
  refine wr <| st_q (vA #[vI .i64 b.f, vI .i64 b.pc]) hA hW.cls (rl b3 0 1) fun ac hA => st_q (vA #[vI .i64 a.f, vI .i64 a.pc]) hA hW.cls (rl b1 0 2) fun ac hA => st_p (vA #[vI .i64 b.f, vI .i64 b.pc, vI .i64 a.f, vI .i64 a.pc]) hA fun ac hA => st_s hA (Runs.store (v := vA #[vI .i64 b.f, vI .i64 b.pc, vI .i64 a.f, vI .i64 a.pc]) (b := b5) (j := 0) (n := 4) (cs' := #[vI .i64 b.f, vI .i64 b.pc, vI .i64 a.f, vI .i64 a.pc]) (H' := [Cel b5 #[vI .i64 b.f, vI .i64 b.pc, vI .i64 a.f, vI .i64 a.pc] 45, Cel b3 #[vI .i64 b.f, vI .i64 b.pc] 43, Cel b1 #[vI .i64 a.f, vI .i64 a.pc] 43]) (by kernel_rfl) (by kernel_rfl) (by kernel_rfl) (by kernel_rfl) (by kernel_rfl) hW 0 (by rfl) (Nat.le_of_ble_eq_true (by kernel_rfl)) (by kernel_rfl) (by rfl) ?_); clear hA ac hW; intro w9 hW ac hA
  refine wn <| wp_ret <| thenR <| ret1 (v := vA #[vI .i64 b.f, vI .i64 b.pc, vI .i64 a.f, vI .i64 a.pc]) (by rfl) hA (Got.cell (b := b5) (i := 0) hA (by kernel_rfl) (by kernel_rfl) (hW.cel 0 rfl) (by kernel_rfl)) ?_
  clear hA
  exact ⟨retv (by simp [Pair.of, Pair.v, *]; try omega), hW.fr⟩
 have h8 := of_decide_eq_false h8
 refine wp_skip <| thenN <| wr <| st_q (vA #[vI .i64 a.f, vI .i64 a.pc]) hA hW.cls (rl b1 0 2) fun ac hA => st_q (vA #[vI .i64 b.f, vI .i64 b.pc]) hA hW.cls (rl b3 0 1) fun ac hA => st_p (vA #[vI .i64 a.f, vI .i64 a.pc, vI .i64 b.f, vI .i64 b.pc]) hA fun ac hA => st_s hA (Runs.store (v := vA #[vI .i64 a.f, vI .i64 a.pc, vI .i64 b.f, vI .i64 b.pc]) (b := b5) (j := 0) (n := 4) (cs' := #[vI .i64 a.f, vI .i64 a.pc, vI .i64 b.f, vI .i64 b.pc]) (H' := [Cel b5 #[vI .i64 a.f, vI .i64 a.pc, vI .i64 b.f, vI .i64 b.pc] 45, Cel b3 #[vI .i64 b.f, vI .i64 b.pc] 43, Cel b1 #[vI .i64 a.f, vI .i64 a.pc] 43]) (by kernel_rfl) (by kernel_rfl) (by kernel_rfl) (by kernel_rfl) (by kernel_rfl) hW 0 (by rfl) (Nat.le_of_ble_eq_true (by kernel_rfl)) (by kernel_rfl) (by rfl) ?_); clear hA ac hW; intro w10 hW ac hA
 refine wn <| wp_ret <| ret1 (v := vA #[vI .i64 a.f, vI .i64 a.pc, vI .i64 b.f, vI .i64 b.pc]) (by rfl) hA (Got.cell (b := b5) (i := 0) hA (by kernel_rfl) (by kernel_rfl) (hW.cel 0 rfl) (by kernel_rfl)) ?_
 clear hA
 exact ⟨retv (by simp [Pair.of, Pair.v, *]; try omega), hW.fr⟩

set_option maxRecDepth 100000 in
theorem e_r21all (A_L : Option Addr) (c_L : Nat) (L : List Event) (A_B : Option Addr) (c_B : Nat) (B : List BV) (w : World) (hr_L : RowAt w A_L 9 enEvent L) (hc_L : L.length ≤ c_L) (hr_B : RowAt w A_B 1 enBV B) (hc_B : B.length ≤ c_B) (hn_B : (nestR innerBV B).p w) (hk_B : ∀ x_ ∈ B, capBV x_) (hL : L.length ≤ 4096) (hev : ∀ e ∈ L, EvOk e) (hB : B.map BV.l = ahM L) (hE100 : L.length ≤ 100) : Calls Tryz.prog 13 #[vA #[vS A_L L.length c_L, vS A_B B.length c_B]] w (Fresh 47 7 enRace (raceL L) w) := by
 have _hu := hc_L; have _hv := hr_L; clear _hu _hv
 have _hu := hc_B; have _hv := hr_B; clear _hu _hv
 have _hu := hk_B; have _hv := hn_B; clear _hu _hv
 have _hu := hL; clear _hu
 have _hu := hev; clear _hu
 have _hu := hB; clear _hu
 have _hu := hE100; clear _hu
 have hbl_ := ah_blen hB
 refine enter_E 61 Tryz.func13 rfl rfl (by kernel_rfl) (L := [(0, vA #[vS A_L L.length c_L, vS A_B B.length c_B])]) (by kernel_rfl) ?_
 intro ac hA
 have hW := Ws.start w No
 have hW := hW.arg hr_L
 have hW := hW.arg hr_B
 have hW := hW.addG _ hn_B (nest_ltBV hn_B) (by simp)
 refine wr <| st_s hA (Runs.cells (fun b => pA b 0) #[vS A_L L.length c_L, vS A_B B.length c_B] 31 (fun _ => by kernel_rfl) hW ?_); clear hA ac hW; intro b1 w2 hW hb1 hfw2 ac hA
 refine st_p (vS none 0 0) hA ?_; clear hA ac; intro ac hA
 refine wn <| wr <| st_p (vS none 0 0) hA ?_; clear hA ac; intro ac hA
 refine wn <| wp_seq <| wr <| st_p (vI .i64 0) hA ?_; clear hA ac; intro ac hA
 refine wn <| wp_block ?_
 have hW := hW.addNil 47 7 enRace
 refine wp_loop_m (fun m_ ac_ wl_ => ∃ j : Nat, ∃ d : List Race, ∃ A : Option Addr, ∃ cc : Nat, m_ = L.length - j ∧ (j ≤ L.length) ∧ (d = raceP L j) ∧ (d.length ≤ cc) ∧ Fm 61 [] [(0, vA #[vS A_L L.length c_L, vS A_B B.length c_B]), (1, pA b1 0), (3, vS A d.length cc), (4, vI .i64 (j : Int))] ac_ ∧ Ws w No [rowR 47 7 enRace (vS A d.length cc) d, Cel b1 #[vS A_L L.length c_L, vS A_B B.length c_B] 31] [nestR innerBV B, roR A_B 1 enBV B, roR A_L 9 enEvent L] wl_) _ ⟨0, [], none, 0, rfl, by omega, by rfl, by simp, hA.sub (by and_intros <;> first | kernel_rfl | trivial), (hW.pick [0, 1] (by decide) rfl).pickG [0, 1, 2] rfl⟩ ?_
 clear hA ac hW; rintro m_ ac w3 ⟨j, d, A, cc, rfl, hj, hd, hcc, hA, hW⟩
 have hpl_ := raceP_len L j; have hpm_ : j * L.length ≤ 10000 := Nat.mul_le_mul (show j ≤ 100 from by omega) hE100
 refine wp_seq <| wr <| st_p (vI .i64 (j : Int)) hA fun ac hA => st_p (pA b1 0) hA fun ac hA => st_q (vS A_L L.length c_L) hA hW.cls (rl b1 0 1) fun ac hA => st_p (vI .i64 (L.length : Int)) hA fun ac hA => st_p (vB (decide ((j : Int) < (L.length : Int)))) hA fun ac hA => wn <| wp_cond_split (t := decide ((j : Int) < (L.length : Int))) (hA.eval (by kernel_rfl)) (fun h4 => ?_) (fun h4 => ?_)
 ·
  have h4 := of_decide_eq_true h4
  refine wp_skip <| thenN <| wp_seq <| wp_block <| wr <| st_p (vI .i64 0) hA ?_; clear hA ac; intro ac hA
  refine wn <| wp_block <| wp_loop_m (fun m_ ac_ wl_ => ∃ i : Nat, ∃ d : List Race, ∃ A : Option Addr, ∃ cc : Nat, m_ = j - i ∧ (i ≤ j) ∧ (d = raceP L j ++ (withY L i (evAt L (j : Int)) (j : Int)).map fun i => mkR L i (j : Int)) ∧ (d.length ≤ cc) ∧ Fm 61 [] [(0, vA #[vS A_L L.length c_L, vS A_B B.length c_B]), (1, pA b1 0), (3, vS A d.length cc), (4, vI .i64 (j : Int)), (5, vI .i64 (i : Int))] ac_ ∧ Ws w No [rowR 47 7 enRace (vS A d.length cc) d, Cel b1 #[vS A_L L.length c_L, vS A_B B.length c_B] 31] [nestR innerBV B, roR A_B 1 enBV B, roR A_L 9 enEvent L] wl_) _ ⟨0, d, A, cc, rfl, by omega, by simpa [withY] using hd, by exact hcc, hA.sub (by and_intros <;> first | kernel_rfl | trivial), (hW.pick [0, 1] (by decide) rfl).pickG [0, 1, 2] rfl⟩ ?_
  clear hA ac hW; rintro m_ ac w5 ⟨i, d, A, cc, rfl, hi, hd2, hcc2, hA, hW⟩
  have hdl_ : d.length ≤ 10100 := by have q_ := with_len L i (evAt L (j : Int)) (j : Int); rw [hd2, List.length_append, List.length_map]; omega
  refine wp_seq <| wr <| st_p (vI .i64 (i : Int)) hA fun ac hA => st_p (vI .i64 (j : Int)) hA fun ac hA => st_p (vB (decide ((i : Int) < (j : Int)))) hA fun ac hA => wn <| wp_cond_split (t := decide ((i : Int) < (j : Int))) (hA.eval (by kernel_rfl)) (fun h6 => ?_) (fun h6 => ?_)
  ·
   have h6 := of_decide_eq_true h6
   refine wp_skip <| thenN <| wp_seq <| wp_block <| wp_seq ?_
   obtain ⟨y7, hy7⟩ : ∃ y, L[i]? = some y := ⟨_, List.getElem?_eq_getElem (by omega)⟩
   obtain ⟨b8, o9, rfl, hbb8⟩ := row_some ((hW).getG 2 rfl) hy7
   obtain ⟨y10, hy10⟩ : ∃ y, L[j]? = some y := ⟨_, List.getElem?_eq_getElem (by omega)⟩
   refine q_region (by kernel_rfl) (by kernel_rfl) hW <| sq_p (pA b1 0) hA fun ac hA => sq_q (vS (some ⟨b8, o9, none⟩) L.length c_L) hA (rl b1 0 1) fun ac hA => sq_p (vI .i64 (i : Int)) hA fun ac hA => sq_q (vP (some ⟨b8, o9 + i * 9, none⟩)) hA (Rd.indexAddr (e := 51) (sz := 9) (b := b8) (off := o9) (n := L.length) (c := c_L) (k := i) (by kernel_rfl) (by kernel_rfl) (by first | omega | (simp; done) | (simp; omega) | (have := ah_len hB (by assumption); omega)) (fun _ => by kernel_rfl) (fun _ => by kernel_rfl)) fun ac hA => sq_q (vA #[vI .i64 y7.g, vI .i64 y7.kind, vI .i64 y7.site.f, vI .i64 y7.site.pc, vI .u32 y7.addr, vI .i64 y7.child, vI .i64 y7.obj, vI .i64 y7.n, vI .i64 y7.trap]) hA (Rd.loadRow (b := b8) (i := o9 + i * 9) (xs := [vI .i64 y7.g, vI .i64 y7.kind, vI .i64 y7.site.f, vI .i64 y7.site.pc, vI .u32 y7.addr, vI .i64 y7.child, vI .i64 y7.obj, vI .i64 y7.n, vI .i64 y7.trap]) (by kernel_rfl) (fun _ hw => row_ld ((hw.1).getG 2 rfl) hy7 (Fr.refl No _) (fun h => h) 0 9 (by kernel_rfl)) (by kernel_rfl)) fun ac hA => sq_p (pA b1 0) hA fun ac hA => sq_q (vS (some ⟨b8, o9, none⟩) L.length c_L) hA (rl b1 0 1) fun ac hA => sq_p (vI .i64 (j : Int)) hA fun ac hA => sq_q (vP (some ⟨b8, o9 + j * 9, none⟩)) hA (Rd.indexAddr (e := 51) (sz := 9) (b := b8) (off := o9) (n := L.length) (c := c_L) (k := j) (by kernel_rfl) (by kernel_rfl) (by first | omega | (simp; done) | (simp; omega) | (have := ah_len hB (by assumption); omega)) (fun _ => by kernel_rfl) (fun _ => by kernel_rfl)) fun ac hA => sq_q (vA #[vI .i64 y10.g, vI .i64 y10.kind, vI .i64 y10.site.f, vI .i64 y10.site.pc, vI .u32 y10.addr, vI .i64 y10.child, vI .i64 y10.obj, vI .i64 y10.n, vI .i64 y10.trap]) hA (Rd.loadRow (b := b8) (i := o9 + j * 9) (xs := [vI .i64 y10.g, vI .i64 y10.kind, vI .i64 y10.site.f, vI .i64 y10.site.pc, vI .u32 y10.addr, vI .i64 y10.child, vI .i64 y10.obj, vI .i64 y10.n, vI .i64 y10.trap]) (by kernel_rfl) (fun _ hw => row_ld ((hw.1).getG 2 rfl) hy10 (Fr.refl No _) (fun h => h) 0 9 (by kernel_rfl)) (by kernel_rfl)) fun ac hA => sq_call (v := vB (evConf y7 y10)) hA (by kernel_rfl) (by kernel_rfl) (by kernel_rfl) (fun _ => by kernel_rfl) (Cls.callNC fun wx hwx => e_r16conf y7 y10 wx) ?_; clear hA ac; intro ac hA
   refine sq_p (vB (evConf y7 y10)) hA ?_; clear hA ac; intro ac hA
   rcases Bool.eq_false_or_eq_true (evConf y7 y10) with h11 | h11
   ·
    rw [h11] at hA
    refine sq_q (vA #[vS (some ⟨b8, o9, none⟩) L.length c_L, vS A_B B.length c_B]) hA (rl b1 0 1) fun ac hA => sq_p (vI .i64 (i : Int)) hA fun ac hA => sq_p (vI .i64 (j : Int)) hA fun ac hA => sq_call (v := vB (apartE L (i : Int) (j : Int))) hA (by kernel_rfl) (by kernel_rfl) (by kernel_rfl) (fun _ => by kernel_rfl) (Cls.callNC fun wx hwx => e_rapart (some ⟨b8, o9, none⟩) c_L L A_B c_B B (i : Int) (j : Int) wx ((hwx.1).getG 2 rfl) (by first | assumption | omega | (simp; omega) | simp) ((hwx.1).getG 1 rfl) (by first | assumption | omega | (simp; omega) | simp) ((hwx.1).getG 0 rfl) hk_B (by first | omega | assumption | exact ⟨by omega, by omega⟩) (by first | omega | assumption | exact ⟨by omega, by omega⟩) (by first | omega | assumption | exact ⟨by omega, by omega⟩) (by first | omega | assumption | exact ⟨by omega, by omega⟩) (by first | omega | assumption | exact ⟨by omega, by omega⟩)) ?_; clear hA ac; intro ac hA
    refine sq_p (vB (apartE L (i : Int) (j : Int))) hA ?_; clear hA ac; intro ac hA
    refine sq_nil ?_; intro w12 hww12; have hW := hww12.1; have hfw12 := hww12.2; clear hww12
    refine thenN <| wp_cond_split (t := apartE L (i : Int) (j : Int)) (hA.eval (by kernel_rfl)) (fun h13 => ?_) (fun h13 => ?_)
    ·
     refine wp_cut (fun ac_ wl_ => ∃ Ar9_24 : Option Addr, ∃ br9_23 : Nat, ∃ cr9_24 : Nat, ((d ++ ([(⟨(i : Int), (j : Int), y10.addr, (Pair.of y7.site y10.site)⟩ : Race)] : List Race)).length ≤ cr9_24) ∧ Fm 61 [] [(0, vA #[vS (some ⟨b8, o9, none⟩) L.length c_L, vS A_B B.length c_B]), (1, pA b1 0), (3, vS Ar9_24 (d ++ ([(⟨(i : Int), (j : Int), y10.addr, (Pair.of y7.site y10.site)⟩ : Race)] : List Race)).length cr9_24), (4, vI .i64 (j : Int)), (5, vI .i64 (i : Int)), (13, vI .i64 (i : Int)), (14, vI .i64 (j : Int)), (15, vB (decide ((i : Int) < (j : Int)))), (18, pA b1 0), (19, vS (some ⟨b8, o9, none⟩) L.length c_L), (20, vI .i64 (i : Int)), (21, vP (some ⟨b8, o9 + i * 9, none⟩)), (22, vA #[vI .i64 y7.g, vI .i64 y7.kind, vI .i64 y7.site.f, vI .i64 y7.site.pc, vI .u32 y7.addr, vI .i64 y7.child, vI .i64 y7.obj, vI .i64 y7.n, vI .i64 y7.trap]), (23, pA b1 0), (24, vS (some ⟨b8, o9, none⟩) L.length c_L), (25, vI .i64 (j : Int)), (26, vP (some ⟨b8, o9 + j * 9, none⟩)), (27, vA #[vI .i64 y10.g, vI .i64 y10.kind, vI .i64 y10.site.f, vI .i64 y10.site.pc, vI .u32 y10.addr, vI .i64 y10.child, vI .i64 y10.obj, vI .i64 y10.n, vI .i64 y10.trap]), (28, vB true), (29, vB true), (30, vA #[vS (some ⟨b8, o9, none⟩) L.length c_L, vS A_B B.length c_B]), (31, vI .i64 (i : Int)), (32, vI .i64 (j : Int)), (33, vB (apartE L (i : Int) (j : Int))), (34, vB (apartE L (i : Int) (j : Int)))] ac_ ∧ Ws w No [Cel br9_23 #[vI .i64 (i : Int), vI .i64 (j : Int), vI .u32 y10.addr, vI .i64 (Pair.of y7.site y10.site).a.f, vI .i64 (Pair.of y7.site y10.site).a.pc, vI .i64 (Pair.of y7.site y10.site).b.f, vI .i64 (Pair.of y7.site y10.site).b.pc] 47, rowR 47 7 enRace (vS Ar9_24 (d ++ ([(⟨(i : Int), (j : Int), y10.addr, (Pair.of y7.site y10.site)⟩ : Race)] : List Race)).length cr9_24) (d ++ ([(⟨(i : Int), (j : Int), y10.addr, (Pair.of y7.site y10.site)⟩ : Race)] : List Race)), Cel b1 #[vS (some ⟨b8, o9, none⟩) L.length c_L, vS A_B B.length c_B] 31] [nestR innerBV B, roR A_B 1 enBV B, roR (some ⟨b8, o9, none⟩) 9 enEvent L] wl_) ?_ ?_
     · refine sr_region (m := 26) (C := Ws w No [rowR 47 7 enRace (vS A d.length cc) d, Cel b1 #[vS (some ⟨b8, o9, none⟩) L.length c_L, vS A_B B.length c_B] 31] [nestR innerBV B, roR A_B 1 enBV B, roR (some ⟨b8, o9, none⟩) 9 enEvent L]) (fun i => [4, 8, 10, 14, 16, 20].contains i) (fun i => [4, 8, 10, 14, 16, 20, 21].contains i) (fun i => [0, 1, 2, 3, 5, 6, 7, 9, 11, 12, 13, 15, 17, 18, 19, 22, 25].contains i) (by kernel_rfl) (by kernel_rfl) (by kernel_rfl) (by kernel_rfl) hW ?_; clear hW; intro w14 hW hfw14 hR; have hC : Ws w No [rowR 47 7 enRace (vS A d.length cc) d, Cel b1 #[vS (some ⟨b8, o9, none⟩) L.length c_L, vS A_B B.length c_B] 31] [nestR innerBV B, roR A_B 1 enBV B, roR (some ⟨b8, o9, none⟩) 9 enEvent L] w14 := hW.pick [0, 1] (by decide) rfl
       refine sr_p 0 (vS A d.length cc) hR rfl hA fun ac hA => sr_p 1 (vI .i64 (i : Int)) hR rfl hA fun ac hA => sr_p 2 (vI .i64 (j : Int)) hR rfl hA fun ac hA => sr_p 3 (pA b1 0) hR rfl hA fun ac hA => sr_t 4 (vS (some ⟨b8, o9, none⟩) L.length c_L) hR rfl hA hC (Rd.load (b := b1) (i := 0) (by kernel_rfl) (fun _ hw => (hw).cel 1 rfl) (by kernel_rfl)) fun ac hA => sr_p 5 (vI .i64 (j : Int)) hR rfl hA fun ac hA => sr_q 6 (vP (some ⟨b8, o9 + j * 9, none⟩)) hR rfl hA (Rd.indexAddr (e := 51) (sz := 9) (b := b8) (off := o9) (n := L.length) (c := c_L) (k := j) (by kernel_rfl) (by kernel_rfl) (by first | omega | (simp; done) | (simp; omega) | (have := ah_len hB (by assumption); omega)) (fun _ => by kernel_rfl) (fun _ => by kernel_rfl)) fun ac hA => sr_p 7 (vP (some ⟨b8, o9 + j * 9 + 4, none⟩)) hR rfl hA fun ac hA => sr_t 8 (vI .u32 y10.addr) hR rfl hA hC (Rd.loadRow (b := b8) (i := o9 + j * 9 + 4) (xs := [vI .u32 y10.addr]) (by kernel_rfl) (fun _ hw => row_ld ((hw).getG 2 rfl) hy10 (Fr.refl No _) (fun h => h) 4 1 (by kernel_rfl)) (by kernel_rfl)) fun ac hA => sr_p 9 (pA b1 0) hR rfl hA fun ac hA => sr_t 10 (vS (some ⟨b8, o9, none⟩) L.length c_L) hR rfl hA hC (Rd.load (b := b1) (i := 0) (by kernel_rfl) (fun _ hw => (hw).cel 1 rfl) (by kernel_rfl)) fun ac hA => sr_p 11 (vI .i64 (i : Int)) hR rfl hA fun ac hA => sr_q 12 (vP (some ⟨b8, o9 + i * 9, none⟩)) hR rfl hA (Rd.indexAddr (e := 51) (sz := 9) (b := b8) (off := o9) (n := L.length) (c := c_L) (k := i) (by kernel_rfl) (by kernel_rfl) (by first | omega | (simp; done) | (simp; omega) | (have := ah_len hB (by assumption); omega)) (fun _ => by kernel_rfl) (fun _ => by kernel_rfl)) fun ac hA => sr_p 13 (vP (some ⟨b8, o9 + i * 9 + 2, none⟩)) hR rfl hA fun ac hA => sr_t 14 (vA #[vI .i64 y7.site.f, vI .i64 y7.site.pc]) hR rfl hA hC (Rd.loadRow (b := b8) (i := o9 + i * 9 + 2) (xs := [vI .i64 y7.site.f, vI .i64 y7.site.pc]) (by kernel_rfl) (fun _ hw => row_ld ((hw).getG 2 rfl) hy7 (Fr.refl No _) (fun h => h) 2 2 (by kernel_rfl)) (by kernel_rfl)) fun ac hA => sr_p 15 (pA b1 0) hR rfl hA fun ac hA => sr_t 16 (vS (some ⟨b8, o9, none⟩) L.length c_L) hR rfl hA hC (Rd.load (b := b1) (i := 0) (by kernel_rfl) (fun _ hw => (hw).cel 1 rfl) (by kernel_rfl)) fun ac hA => sr_p 17 (vI .i64 (j : Int)) hR rfl hA fun ac hA => sr_q 18 (vP (some ⟨b8, o9 + j * 9, none⟩)) hR rfl hA (Rd.indexAddr (e := 51) (sz := 9) (b := b8) (off := o9) (n := L.length) (c := c_L) (k := j) (by kernel_rfl) (by kernel_rfl) (by first | omega | (simp; done) | (simp; omega) | (have := ah_len hB (by assumption); omega)) (fun _ => by kernel_rfl) (fun _ => by kernel_rfl)) fun ac hA => sr_p 19 (vP (some ⟨b8, o9 + j * 9 + 2, none⟩)) hR rfl hA fun ac hA => sr_t 20 (vA #[vI .i64 y10.site.f, vI .i64 y10.site.pc]) hR rfl hA hC (Rd.loadRow (b := b8) (i := o9 + j * 9 + 2) (xs := [vI .i64 y10.site.f, vI .i64 y10.site.pc]) (by kernel_rfl) (fun _ hw => row_ld ((hw).getG 2 rfl) hy10 (Fr.refl No _) (fun h => h) 2 2 (by kernel_rfl)) (by kernel_rfl)) fun ac hA => sr_one (i := 21) (by kernel_rfl) (sr_d rfl hA (Runs.callN (v := (Pair.of y7.site y10.site).v) (fun _ => by kernel_rfl) hW (e_of07 y7.site y10.site w14) ?_)); clear hA ac hW; intro w15 hW hfw15 ac hA
       refine ⟨⟨fun _ => (hW.pick [0, 1] (by decide) rfl).pickG [0, 1, 2] rfl, fun h => absurd h (by decide)⟩, ?_⟩; have hC : Ws w No [rowR 47 7 enRace (vS A d.length cc) d, Cel b1 #[vS (some ⟨b8, o9, none⟩) L.length c_L, vS A_B B.length c_B] 31] [nestR innerBV B, roR A_B 1 enBV B, roR (some ⟨b8, o9, none⟩) 9 enEvent L] w15 := (hW.pick [0, 1] (by decide) rfl).pickG [0, 1, 2] rfl
       refine sr_p 22 (vA #[vI .i64 (i : Int), vI .i64 (j : Int), vI .u32 y10.addr, vI .i64 (Pair.of y7.site y10.site).a.f, vI .i64 (Pair.of y7.site y10.site).a.pc, vI .i64 (Pair.of y7.site y10.site).b.f, vI .i64 (Pair.of y7.site y10.site).b.pc]) hR rfl hA ?_; clear hA ac; intro ac hA
       refine sr_one (i := 23) (by kernel_rfl) (sr_d rfl hA (Runs.cells (fun b => vS (some ⟨b, 0, none⟩) 1 1) #[vI .i64 (i : Int), vI .i64 (j : Int), vI .u32 y10.addr, vI .i64 (Pair.of y7.site y10.site).a.f, vI .i64 (Pair.of y7.site y10.site).a.pc, vI .i64 (Pair.of y7.site y10.site).b.f, vI .i64 (Pair.of y7.site y10.site).b.pc] 47 (fun _ => by kernel_rfl) hW ?_)); clear hA ac hW; intro br9_23 w16 hW hbr9_23 hfw16 ac hA
       refine qn <| sr_one (i := 24) (by kernel_rfl) (sr_d rfl hA (Runs.appOwn (B := (some ⟨br9_23, 0, none⟩)) (k := 1) (E := 47) (sz := 7) (en := enRace) (l := d) (m := ([(⟨(i : Int), (j : Int), y10.addr, (Pair.of y7.site y10.site)⟩ : Race)] : List Race)) (i := 1) (by kernel_rfl) (by kernel_rfl) elt_Race (by kernel_rfl) hW rfl (rowAt_cel ((hW).cel 0 rfl) ([(⟨(i : Int), (j : Int), y10.addr, (Pair.of y7.site y10.site)⟩ : Race)] : List Race) (by rfl) elt_Race.len) (by first | omega | (simp; done) | (simp; omega)) (by first | omega | (simp; done) | (simp; omega)) ?_)); clear hA ac hW; intro Ar9_24 cr9_24 w17 hW hccr9_24 ac hA
       refine qn <| sr_p 25 (vS Ar9_24 (d ++ ([(⟨(i : Int), (j : Int), y10.addr, (Pair.of y7.site y10.site)⟩ : Race)] : List Race)).length cr9_24) hR rfl hA ?_; clear hA ac; intro ac hA
       refine sr_done (by kernel_rfl) ?_ _
       exact ⟨Ar9_24, br9_23, cr9_24, hccr9_24, hA.sub (by and_intros <;> first | kernel_rfl | trivial), (hW.pick [0, 1, 2] (by decide) rfl).pickG [0, 1, 2] rfl⟩
     clear hA ac hW; rintro ac w18 ⟨Ar9_24, br9_23, cr9_24, hccr9_24, hA, hW⟩
     refine blkN <| thenN <| wp_region_lit <| st_p (vI .i64 (i : Int)) hA fun ac hA => st_q (vI .i64 ((i + 1 : Nat) : Int)) hA hW.cls (Rd.pureE (v0 := vI .i64 (IntKind.i64.wrap ((i : Int) + 1))) (fun _ => by kernel_rfl) (congrArg (vI .i64) ((w_i64 (x := (i : Int) + 1) (by omega) (by omega)).trans (by omega)))) fun ac hA => st_p (vI .i64 ((i + 1 : Nat) : Int)) hA fun ac hA => wn ?_
     exact ⟨j - (i + 1), by omega, i + 1, d ++ ([(⟨(i : Int), (j : Int), y10.addr, (Pair.of y7.site y10.site)⟩ : Race)] : List Race), Ar9_24, cr9_24, rfl, by omega, by rw [with_snoc, if_pos (by rw [raceY_at hy7 hy10, h11, h13]; rfl), List.map_append, ← List.append_assoc, ← hd2, List.map_cons, List.map_nil, mk_of hev hy7 hy10], by exact hccr9_24, hA.sub (by and_intros <;> first | kernel_rfl | trivial), (hW.pick [1, 2] (by decide) rfl).pickG [0, 1, 2] rfl⟩
    refine wp_skip <| blkN <| thenN <| wp_region_lit <| st_p (vI .i64 (i : Int)) hA fun ac hA => st_q (vI .i64 ((i + 1 : Nat) : Int)) hA hW.cls (Rd.pureE (v0 := vI .i64 (IntKind.i64.wrap ((i : Int) + 1))) (fun _ => by kernel_rfl) (congrArg (vI .i64) ((w_i64 (x := (i : Int) + 1) (by omega) (by omega)).trans (by omega)))) fun ac hA => st_p (vI .i64 ((i + 1 : Nat) : Int)) hA fun ac hA => wn ?_
    exact ⟨j - (i + 1), by omega, i + 1, d, A, cc, rfl, by omega, by rw [with_snoc, if_neg (by rw [raceY_at hy7 hy10, h11, h13]; simp), List.append_nil]; exact hd2, by exact hcc2, hA.sub (by and_intros <;> first | kernel_rfl | trivial), (hW.pick [0, 1] (by decide) rfl).pickG [0, 1, 2] rfl⟩
   rw [h11] at hA
   refine sq_k hA fun ac hA => sq_k hA fun ac hA => sq_k hA fun ac hA => sq_k hA fun ac hA => sq_p (vB false) hA fun ac hA => sq_nil ?_; intro w19 hww19; have hW := hww19.1; have hfw19 := hww19.2; clear hww19
   refine thenN <| wp_cond_false (hA.eval (by kernel_rfl)) <| wp_skip <| blkN <| thenN <| wp_region_lit <| st_p (vI .i64 (i : Int)) hA fun ac hA => st_q (vI .i64 ((i + 1 : Nat) : Int)) hA hW.cls (Rd.pureE (v0 := vI .i64 (IntKind.i64.wrap ((i : Int) + 1))) (fun _ => by kernel_rfl) (congrArg (vI .i64) ((w_i64 (x := (i : Int) + 1) (by omega) (by omega)).trans (by omega)))) fun ac hA => st_p (vI .i64 ((i + 1 : Nat) : Int)) hA fun ac hA => wn ?_
   exact ⟨j - (i + 1), by omega, i + 1, d, A, cc, rfl, by omega, by rw [with_snoc, if_neg (by rw [raceY_at hy7 hy10, h11]; simp), List.append_nil]; exact hd2, by exact hcc2, hA.sub (by and_intros <;> first | kernel_rfl | trivial), (hW.pick [0, 1] (by decide) rfl).pickG [0, 1, 2] rfl⟩
  have h6 := of_decide_eq_false h6
  refine wp_exit <| thenX <| thenX <| blkX <| blkN <| thenN <| wp_region_lit <| st_p (vI .i64 (j : Int)) hA fun ac hA => st_q (vI .i64 ((j + 1 : Nat) : Int)) hA hW.cls (Rd.pureE (v0 := vI .i64 (IntKind.i64.wrap ((j : Int) + 1))) (fun _ => by kernel_rfl) (congrArg (vI .i64) ((w_i64 (x := (j : Int) + 1) (by omega) (by omega)).trans (by omega)))) fun ac hA => st_p (vI .i64 ((j + 1 : Nat) : Int)) hA fun ac hA => wn ?_
  exact ⟨L.length - (j + 1), by omega, j + 1, d, A, cc, rfl, by omega, by rw [raceP_snocY (by omega), hd2, show i = j from by omega], by exact hcc2, hA.sub (by and_intros <;> first | kernel_rfl | trivial), (hW.pick [0, 1] (by decide) rfl).pickG [0, 1, 2] rfl⟩
 have h4 := of_decide_eq_false h4
 refine wp_exit <| thenX <| thenX <| blkX <| thenN <| wr <| st_p (vS A d.length cc) hA fun ac hA => st_p (vS A d.length cc) hA fun ac hA => wn <| wp_ret <| r1 (vS A d.length cc) hA ?_
 clear hA
 rw [show raceL L = d from by rw [hd, show j = L.length from by omega]; rfl]; exact ⟨_, rfl, hW.fresh 0 rfl (fun _ h => h), hW.fr⟩

end Go.Proofs.YtfkbjfbbigbacaaGreatDoor.L
