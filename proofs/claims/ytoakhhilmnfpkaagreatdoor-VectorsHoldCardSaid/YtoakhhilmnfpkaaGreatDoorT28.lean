/- Contracts, walked by program over the engine's laws. -/
import Derived.Test.YtoakhhilmnfpkaaGreatDoorProg
import Derived.Test.YtoakhhilmnfpkaaGreatDoorT27
namespace Go.Proofs.YtoakhhilmnfpkaaGreatDoor.L
open Go.RowKit
open Go.Value renaming int → vI, slice → vS, bool → vB, pointer → vP, func → vF, agg → vA, map → vM, tuple → vT

theorem Ws.openG {w0 w : World} {S : Nat → Prop} {H G : List Res} (h : Ws w0 S H G w) (j : Nat) {L : List Res} (hj : G[j]? = some (allR L)) : Ws w0 S H (L ++ G) w := by
  have hm := List.mem_of_getElem? hj
  have hp : (allR L).p w := h.getG j hj
  have key : ∀ K : List Res, (∀ r ∈ K, r ∈ L) → Ws w0 S H (K ++ G) w := fun K => by
    induction K with
    | nil => exact fun _ => h
    | cons r K ih => exact fun hs => (ih fun x hx => hs x (.tail _ hx)).nestG r (hp.2 r (hs r (.head _))) fun b hb => ⟨_, List.mem_append.2 (.inr hm), mem_allR.2 ⟨r, hs r (.head _), hb⟩⟩
  exact key L fun _ h => h
theorem Ws.nestNilH {α : Type} {w0 w : World} {S : Nat → Prop} {H G : List Res} (h : Ws w0 S H G w) (inner : α → Res) : Ws w0 S (nestR inner [] :: H) G w :=
  h.add (Fr.refl No w) _ (nest_p.2 (by simp)) fun b hb => by obtain ⟨x, hx, -⟩ := nest_fp.1 hb; cases hx
/-- A detector, with what its clocks list. -/
def PlR (p m bg : Nat) (G : List (Int × SV)) (bt : Nat) (T : List (Thing × SV)) (en : Int) (ks : KSt) (nn bc : Nat) (V : VT26) (M : Int → Mk2) (A : Option Addr) (c : Nat) (Hs : List Hit) (many : Int) : Res := allR [PlS p m bg G bt T en ks nn bc V M A c Hs many, nestR innerSV (NV [] G T)]
def M0 : Int → Mk2 := fun _ => (([], []), ([], []))
theorem PlOk.start : PlOk 0 [] M0 [] 0 := ⟨by simp [keys, vals], fun a => rfl, by simp, by omega, by simp, by simp⟩
theorem PlOk.at_none {nn V M Hs many} (hp : PlOk nn V M Hs many) {a : Int} (h : look (outs V) a = none) : M a = (([], []), ([], [])) := by
  rw [← hp.ab a]; unfold absV cellOf; rw [outs_none.1 h]; rfl
theorem PlOk.at_some {nn V M Hs many} (hp : PlOk nn V M Hs many) {a : Int} {c : Option MkF × Option MkF} (h : look (vals V) a = some c) : M a = ((hlf c.1, hhf c.1), (hlf c.2, hhf c.2)) := by
  rw [← hp.ab a]; unfold absV cellOf; rw [h]; rfl
theorem vals_mem {V : VT26} {a : Int} {c : Option MkF × Option MkF} (h : look (vals V) a = some c) : ∃ x ∈ V, x.2.2 = c := by
  obtain ⟨x, hx, e⟩ := List.mem_map.1 (look_mem h)
  exact ⟨x, hx, congrArg Prod.snd e⟩
theorem PlOk.ok_some {nn V M Hs many} (hp : PlOk nn V M Hs many) {a : Int} {c : Option MkF × Option MkF} (h : look (vals V) a = some c) : okH c.1 ∧ okH c.2 := by
  obtain ⟨x, hx, rfl⟩ := vals_mem h; exact hp.cap x hx
theorem e_vtrimX (X : Option MkF) (w : World) (hx : (HalfR X).p w) (hok : okH X) : Calls Tryz.prog 74 #[hv0 X] w (Fresh 29 1 enU8 (trimC (hlf X)) w) := by
  cases X with
  | none => exact e_vtrimR none 0 [] w (.inl rfl) (Nat.le_refl _) (by simp)
  | some m => obtain ⟨l, A, c0, sb, h⟩ := m; exact e_vtrimR A c0 l w (hx.2 _ (.head _)) hok.1 (by have : l.length ≤ 65536 := hok.2; omega)
set_option maxRecDepth 100000 in
theorem e_vnew (en : Int) (w : World) (hen : 1 ≤ en ∧ en ≤ 281474976710655) : Calls Tryz.prog 10 #[vI .u64 en] w (fun e w' => ∃ p : Nat, ∃ m : Nat, ∃ bg : Nat, ∃ G : List (Int × SV), ∃ bt : Nat, ∃ T : List (Thing × SV), ∃ bc : Nat, e = .returned (vT #[pA p 0, vI .i64 0]) ∧ (ClkOk en 0 kst0 G T) ∧ Made (PlR p m bg G bt T en kst0 0 bc ([] : VT26) M0 none 0 ([] : List Hit) 0) w w') := by
 have _hu := hen; clear _hu
 refine enter_E 19 Tryz.func10 rfl rfl (by kernel_rfl) (L := [(0, vI .u64 en)]) (by kernel_rfl) ?_
 intro ac hA
 have hW := Ws.start w No
 refine wr <| st_p (vP none) hA fun ac hA => st_p (vI .i64 0) hA fun ac hA => wn <| wr <| st_p (vI .u64 en) hA ?_; clear hA ac; intro ac hA
 refine st_s hA (Runs.call (fun _ => by kernel_rfl) (e_knew (en) w (by omega)) ?_)
 rintro _ w1 ⟨n2, n3, n4, n5, n6, rfl, hw1_hK, hu_⟩; refine ⟨_, rfl, ?_⟩; replace hW := hW.made hu_; clear hA ac; intro ac hA
 refine st_p (vT #[pA n2 0, vI .i64 0]) hA fun ac hA => st_p (pA n2 0) hA fun ac hA => st_p (vI .i64 0) hA fun ac hA => st_p (pA n2 0) hA fun ac hA => st_p (vI .i64 0) hA fun ac hA => wn <| wp_seq <| wr <| st_p (vI .i64 0) hA fun ac hA => st_p (vB false) hA fun ac hA => wn <| wp_cond_false (hA.eval (by kernel_rfl)) <| wp_skip <| thenN <| wr <| st_p (pA n2 0) hA fun ac hA => st_p (vA #[pA n2 0]) hA fun ac hA => st_s hA (Runs.makeMap (fun a : Int => vI .u32 a) (fun x_ : Nat => pA x_ 0) hW ?_); clear hA ac hW; intro b7 w8 hW hb7 hfw8 ac hA
 refine st_p (vA #[pA n2 0, vM (some b7), vS none 0 0, vI .i64 0]) hA ?_; clear hA ac; intro ac hA
 refine st_s hA (Runs.cells (fun b => pA b 0) #[pA n2 0, vM (some b7), vS none 0 0, vI .i64 0] 75 (fun _ => by kernel_rfl) hW ?_); clear hA ac hW; intro b9 w10 hW hb9 hfw10 ac hA
 refine st_p (pA b9 0) hA fun ac hA => st_p (vI .i64 0) hA fun ac hA => wn <| wp_ret <| ret2 (v1 := pA b9 0) (v2 := vI .i64 0) (by rfl) hA (Got.tmp hA (by kernel_rfl) (by kernel_rfl)) (Got.tmp hA (by kernel_rfl) (by kernel_rfl)) ?_
 clear hA
 have hW : Ws w No [Cel n2 #[vM (some n3), vM (some n5), vI .u64 (en)] 156, mapR n3 (fun a : Int => vI .i64 a) SV.v n4, mapR n5 Thing.v SV.v n6, nestR innerSV (NV [] n4 n6), Cel b9 #[pA n2 0, vM (some b7), vS none 0 0, vI .i64 0] 75, mapR b7 (fun a : Int => vI .u32 a) (fun x_ : Nat => pA x_ 0) ([])] [] w10 := Ws.unpack (hW.pick [2, 0, 1] (by decide) rfl)
 have hW : Ws w No [ClkS n2 n3 n4 n5 n6 (en) kst0 0, nestR innerSV (NV [] n4 n6), Cel b9 #[pA n2 0, vM (some b7), vS none 0 0, vI .i64 0] 75, mapR b7 (fun a : Int => vI .u32 a) (fun x_ : Nat => pA x_ 0) ([])] [] w10 := Ws.pack (hW.pick [0, 1, 2, 3, 4, 5] (by decide) rfl)
 have hW := SubR.nil (f := ClR) (κ := Int) hW
 have hW : Ws w No [CmR b7 ([] : VT26), ClkS n2 n3 n4 n5 n6 (en) kst0 0, nestR innerSV (NV [] n4 n6), Cel b9 #[pA n2 0, vM (some b7), vS none 0 0, vI .i64 0] 75] [] w10 := Ws.pack (hW.pick [4, 0, 1, 2, 3] (by decide) rfl)
 have hW := hW.addNil 35 3 enHit
 have hW : Ws w No [nestR innerHit ([] : List Hit), rowR 35 3 enHit (vS none 0 0) ([] : List Hit), CmR b7 ([] : VT26), ClkS n2 n3 n4 n5 n6 (en) kst0 0, nestR innerSV (NV [] n4 n6), Cel b9 #[pA n2 0, vM (some b7), vS none 0 0, vI .i64 0] 75] [] w10 := Ws.nestNilH hW innerHit
 have hW : Ws w No [PlS b9 n2 n3 n4 n5 n6 (en) kst0 0 b7 ([] : VT26) M0 none 0 ([] : List Hit) 0, nestR innerSV (NV [] n4 n6)] [] w10 := Ws.pack (hW.pick [5, 3, 2, 1, 0, 4] (by decide) rfl)
 have hW : Ws w No [PlR b9 n2 n3 n4 n5 n6 (en) kst0 0 b7 ([] : VT26) M0 none 0 ([] : List Hit) 0] [] w10 := Ws.pack (hW.pick [0, 1] (by decide) rfl)
 exact ⟨b9, n2, n3, n4, n5, n6, b7, rfl, hw1_hK, hW.madeDone 0 rfl⟩

set_option maxRecDepth 100000 in
theorem e_vclock3 (p : Nat) (m : Nat) (bg : Nat) (G : List (Int × SV)) (bt : Nat) (T : List (Thing × SV)) (en : Int) (ks : KSt) (nn : Nat) (bc : Nat) (V : VT26) (M : Int → Mk2) (A : Option Addr) (c : Nat) (Hs : List Hit) (many : Int) (addr : Int) (w : World) (ho_p : (PlS p m bg G bt T en ks nn bc V M A c Hs many).p w) (hl_p : ∀ x_ ∈ (PlS p m bg G bt T en ks nn bc V M A c Hs many).fp, x_ < w.heap.size) (hpl : PlOk nn V M Hs many) : Calls Tryz.prog 56 #[pA p 0, vI .u32 addr, vI .i64 3] w (Fresh 29 1 enU8 (trimC (M addr).1.1) w) := by
 have _hu := ho_p; have _hv := hl_p; clear _hu _hv
 have _hu := hpl; clear _hu
 refine enter_E 31 Tryz.func56 rfl rfl (by kernel_rfl) (L := [(0, pA p 0), (1, vI .u32 addr), (2, vI .i64 3)]) (by kernel_rfl) ?_
 intro ac hA
 have hW := Ws.start w No
 have hW := hW.objG (L := [Cel p #[pA m 0, vM (some bc), vS A Hs.length c, vI .i64 many] 75, ClkS m bg G bt T en ks nn, CmR bc V, rowR 35 3 enHit (vS A Hs.length c) Hs, nestR innerHit Hs]) ho_p hl_p
 clear ho_p hl_p
 have hW := Ws.openG hW 2 rfl
 replace hW : Ws w No [] [mapR bc (fun a : Int => vI .u32 a) (fun x_ : Nat => pA x_ 0) (outs V), SubR ClR V, Cel p #[pA m 0, vM (some bc), vS A Hs.length c, vI .i64 many] 75, ClkS m bg G bt T en ks nn, CmR bc V, rowR 35 3 enHit (vS A Hs.length c) Hs, nestR innerHit Hs] w := hW
 refine wr <| st_p (vS none 0 0) hA ?_; clear hA ac; intro ac hA
 refine wn <| wp_seq <| wp_seq ?_
 rcases hk1 : look (outs V) (addr : Int) with _ | bk2
 ·
  refine wp_region_lit <| st_p (pA p 0) hA ?_; clear hA ac; intro ac hA
  refine st_s hA (Runs.callN (v := vB false) (fun _ => by kernel_rfl) hW (e_vnone p m bc (vS A Hs.length c) (many : Int) w (show _ = _ from (hW).getG 2 rfl)) ?_); clear hA ac hW; intro w3 hW hfw3 ac hA
  refine st_p (vB false) hA fun ac hA => st_p (pA p 0) hA fun ac hA => st_p (pA p 0) hA fun ac hA => st_p (pA p 1) hA fun ac hA => st_q (vM (some bc)) hA hW.cls (Rd.load (b := p) (i := 1) (by kernel_rfl) (fun _ hw => show _ = _ from (hw.1).getG 2 rfl) (by kernel_rfl)) fun ac hA => st_p (vI .u32 addr) hA fun ac hA => st_q (vP none) hA hW.cls ((Rd.lookup (k := 32) (e := 97) (ek := (fun a : Int => vI .u32 a)) (ev := (fun x_ : Nat => pA x_ 0)) (m := (outs V)) (z := vP none) (addr : Int) false (by kernel_rfl) (by kernel_rfl) (KeyE.int (by kernel_rfl)) (by kernel_rfl) (fun _ => by kernel_rfl) (fun _ hw => (hw.1).getG 0 rfl)).cast (by rw [hk1]; rfl)) fun ac hA => st_p (vB true) hA fun ac hA => st_p (vB true) hA fun ac hA => wn <| wp_cond_true (hA.eval (by kernel_rfl)) <| wr <| st_p (vS none 0 0) hA ?_; clear hA ac; intro ac hA
  refine wn <| wp_ret <| thenR <| r1 (vS none 0 0) hA ?_
  clear hA
  rw [hpl.at_none hk1]; exact ⟨_, rfl, World.ownsRow_nil _ _ _ _, hW.fr⟩
 ·
  obtain ⟨i4, c5, hi6, hv7⟩ := outs_at hk1
  have hW := hW.subG 1 rfl hi6
  replace hW : Ws w No [] [ClR c5 bk2, mapR bc (fun a : Int => vI .u32 a) (fun x_ : Nat => pA x_ 0) (outs V), SubR ClR V, Cel p #[pA m 0, vM (some bc), vS A Hs.length c, vI .i64 many] 75, ClkS m bg G bt T en ks nn, CmR bc V, rowR 35 3 enHit (vS A Hs.length c) Hs, nestR innerHit Hs] w := hW
  refine wp_region_lit <| st_p (pA p 0) hA ?_; clear hA ac; intro ac hA
  refine st_s hA (Runs.callN (v := vB false) (fun _ => by kernel_rfl) hW (e_vnone p m bc (vS A Hs.length c) (many : Int) w (show _ = _ from (hW).getG 3 rfl)) ?_); clear hA ac hW; intro w8 hW hfw8 ac hA
  refine st_p (vB false) hA fun ac hA => st_p (pA p 0) hA fun ac hA => st_p (pA p 0) hA fun ac hA => st_p (pA p 1) hA fun ac hA => st_q (vM (some bc)) hA hW.cls (Rd.load (b := p) (i := 1) (by kernel_rfl) (fun _ hw => show _ = _ from (hw.1).getG 3 rfl) (by kernel_rfl)) fun ac hA => st_p (vI .u32 addr) hA fun ac hA => st_q (pA bk2 0) hA hW.cls ((Rd.lookup (k := 32) (e := 97) (ek := (fun a : Int => vI .u32 a)) (ev := (fun x_ : Nat => pA x_ 0)) (m := (outs V)) (z := vP none) (addr : Int) false (by kernel_rfl) (by kernel_rfl) (KeyE.int (by kernel_rfl)) (by kernel_rfl) (fun _ => by kernel_rfl) (fun _ hw => (hw.1).getG 1 rfl)).cast (by rw [hk1]; rfl)) fun ac hA => st_p (vB false) hA fun ac hA => st_p (vB false) hA fun ac hA => wn <| wp_cond_false (hA.eval (by kernel_rfl)) <| wp_skip <| thenN <| wp_seq ?_
  have hW := Ws.openG hW 0 rfl
  replace hW : Ws w No [] [Cel bk2 #[hv0 (c5.1), hv1 (c5.1), hv0 (c5.2), hv1 (c5.2)] 168, HalfR (c5.1), HalfR (c5.2), ClR c5 bk2, mapR bc (fun a : Int => vI .u32 a) (fun x_ : Nat => pA x_ 0) (outs V), SubR ClR V, Cel p #[pA m 0, vM (some bc), vS A Hs.length c, vI .i64 many] 75, ClkS m bg G bt T en ks nn, CmR bc V, rowR 35 3 enHit (vS A Hs.length c) Hs, nestR innerHit Hs] w8 := hW
  obtain ⟨hoX_, hoY_⟩ := hpl.ok_some hv7
  refine wp_cut (fun ac_ wl_ => ∃ Ar3_12 : Option Addr, ∃ cr3_12 : Nat, Fm 31 [] [(0, pA p 0), (1, vI .u32 addr), (6, vS Ar3_12 (trimC (hlf (c5.1))).length cr3_12), (7, pA p 0), (8, vB false), (9, vB false), (10, pA p 0), (11, pA p 0), (12, pA p 1), (13, vM (some bc)), (14, vI .u32 addr), (15, pA bk2 0), (16, vB false), (17, vB false)] ac_ ∧ Ws w No [rowR 29 1 enU8 (vS Ar3_12 (trimC (hlf (c5.1))).length cr3_12) (trimC (hlf (c5.1)))] [Cel bk2 #[hv0 (c5.1), hv1 (c5.1), hv0 (c5.2), hv1 (c5.2)] 168, HalfR (c5.1), HalfR (c5.2), ClR c5 bk2, mapR bc (fun a : Int => vI .u32 a) (fun x_ : Nat => pA x_ 0) (outs V), SubR ClR V, Cel p #[pA m 0, vM (some bc), vS A Hs.length c, vI .i64 many] 75, ClkS m bg G bt T en ks nn, CmR bc V, rowR 35 3 enHit (vS A Hs.length c) Hs, nestR innerHit Hs] wl_) ?_ ?_
  · refine sr_region (m := 14) (C := Ws w No [] [Cel bk2 #[hv0 (c5.1), hv1 (c5.1), hv0 (c5.2), hv1 (c5.2)] 168, HalfR (c5.1), HalfR (c5.2), ClR c5 bk2, mapR bc (fun a : Int => vI .u32 a) (fun x_ : Nat => pA x_ 0) (outs V), SubR ClR V, Cel p #[pA m 0, vM (some bc), vS A Hs.length c, vI .i64 many] 75, ClkS m bg G bt T en ks nn, CmR bc V, rowR 35 3 enHit (vS A Hs.length c) Hs, nestR innerHit Hs]) (fun i => [3, 5].contains i) (fun i => [3, 5, 7].contains i) (fun i => [0, 1, 2, 4, 6, 8, 9, 10, 13].contains i) (by kernel_rfl) (by kernel_rfl) (by kernel_rfl) (by kernel_rfl) hW ?_; clear hW; intro w9 hW hfw9 hR; have hC : Ws w No [] [Cel bk2 #[hv0 (c5.1), hv1 (c5.1), hv0 (c5.2), hv1 (c5.2)] 168, HalfR (c5.1), HalfR (c5.2), ClR c5 bk2, mapR bc (fun a : Int => vI .u32 a) (fun x_ : Nat => pA x_ 0) (outs V), SubR ClR V, Cel p #[pA m 0, vM (some bc), vS A Hs.length c, vI .i64 many] 75, ClkS m bg G bt T en ks nn, CmR bc V, rowR 35 3 enHit (vS A Hs.length c) Hs, nestR innerHit Hs] w9 := hW.pick [] (by decide) rfl
    refine sr_p 0 (pA p 0) hR rfl hA fun ac hA => sr_p 1 (pA p 0) hR rfl hA fun ac hA => sr_p 2 (pA p 1) hR rfl hA fun ac hA => sr_t 3 (vM (some bc)) hR rfl hA hC (Rd.load (b := p) (i := 1) (by kernel_rfl) (fun _ hw => show _ = _ from (hw).getG 6 rfl) (by kernel_rfl)) fun ac hA => sr_p 4 (vI .u32 addr) hR rfl hA fun ac hA => sr_t 5 (pA bk2 0) hR rfl hA hC ((Rd.lookup (k := 32) (e := 97) (ek := (fun a : Int => vI .u32 a)) (ev := (fun x_ : Nat => pA x_ 0)) (m := (outs V)) (z := vP none) (addr : Int) false (by kernel_rfl) (by kernel_rfl) (KeyE.int (by kernel_rfl)) (by kernel_rfl) (fun _ => by kernel_rfl) (fun _ hw => (hw).getG 4 rfl)).cast (by rw [hk1]; rfl)) fun ac hA => sr_p 6 (vI .i64 3) hR rfl hA fun ac hA => sr_p 8 (pA bk2 0) hR rfl hA fun ac hA => sr_one (i := 7) (by kernel_rfl) (sr_d rfl hA (Runs.callN (v := vI .i64 0) (fun _ => by kernel_rfl) hW (e_place3 (3) w9 (by first | omega | assumption)) ?_)); clear hA ac hW; intro w10 hW hfw10 ac hA
    refine ⟨⟨fun _ => (hW.pick [] (by decide) rfl).pickG [0, 1, 2, 3, 4, 5, 6, 7, 8, 9, 10] rfl, fun h => absurd h (by decide)⟩, ?_⟩; have hC : Ws w No [] [Cel bk2 #[hv0 (c5.1), hv1 (c5.1), hv0 (c5.2), hv1 (c5.2)] 168, HalfR (c5.1), HalfR (c5.2), ClR c5 bk2, mapR bc (fun a : Int => vI .u32 a) (fun x_ : Nat => pA x_ 0) (outs V), SubR ClR V, Cel p #[pA m 0, vM (some bc), vS A Hs.length c, vI .i64 many] 75, ClkS m bg G bt T en ks nn, CmR bc V, rowR 35 3 enHit (vS A Hs.length c) Hs, nestR innerHit Hs] w10 := (hW.pick [] (by decide) rfl).pickG [0, 1, 2, 3, 4, 5, 6, 7, 8, 9, 10] rfl
    refine sr_p 9 (pA bk2 0) hR rfl hA fun ac hA => sr_p 10 (pA bk2 0) hR rfl hA fun ac hA => sr_one (i := 11) (by kernel_rfl) (sr_d rfl hA (Runs.ofRd (v := hv0 (c5.1)) (C' := Ws w No [] [Cel bk2 #[hv0 (c5.1), hv1 (c5.1), hv0 (c5.2), hv1 (c5.2)] 168, HalfR (c5.1), HalfR (c5.2), ClR c5 bk2, mapR bc (fun a : Int => vI .u32 a) (fun x_ : Nat => pA x_ 0) (outs V), SubR ClR V, Cel p #[pA m 0, vM (some bc), vS A Hs.length c, vI .i64 many] 75, ClkS m bg G bt T en ks nn, CmR bc V, rowR 35 3 enHit (vS A Hs.length c) Hs, nestR innerHit Hs]) hW (Rd.load (b := bk2) (i := 0) (by kernel_rfl) (fun _ hw => show _ = _ from (hw).getG 0 rfl) (by kernel_rfl)) ?_)); clear hA ac; intro  ac hA
    refine qn <| sr_one (i := 12) (by kernel_rfl) (sr_d rfl hA (Runs.callRow (E := 29) (sz := 1) (en := enU8) (l := (trimC (hlf (c5.1)))) (fun _ => by kernel_rfl) hW (e_vtrimX (c5.1) w10 ((hW).getG 1 rfl) (by first | omega | assumption)) ?_)); clear hA ac hW; intro Ar3_12 cr3_12 w11 hW hccr3_12 hfw11 ac hA
    refine qn <| sr_p 13 (vS Ar3_12 (trimC (hlf (c5.1))).length cr3_12) hR rfl hA ?_; clear hA ac; intro ac hA
    refine sr_done (by kernel_rfl) ?_ _
    exact ⟨Ar3_12, cr3_12, hA.sub (by and_intros <;> first | kernel_rfl | trivial), (hW.pick [0] (by decide) rfl).pickG [0, 1, 2, 3, 4, 5, 6, 7, 8, 9, 10] rfl⟩
  clear hA ac hW; rintro ac w12 ⟨Ar3_12, cr3_12, hA, hW⟩
  refine thenN <| wp_ret <| r1 (vS Ar3_12 (trimC (hlf (c5.1))).length cr3_12) hA ?_
  clear hA
  rw [hpl.at_some hv7]; exact ⟨_, rfl, hW.fresh 0 rfl (fun _ h => h), hW.fr⟩

set_option maxRecDepth 100000 in
theorem e_vclock2 (p : Nat) (m : Nat) (bg : Nat) (G : List (Int × SV)) (bt : Nat) (T : List (Thing × SV)) (en : Int) (ks : KSt) (nn : Nat) (bc : Nat) (V : VT26) (M : Int → Mk2) (A : Option Addr) (c : Nat) (Hs : List Hit) (many : Int) (addr : Int) (w : World) (ho_p : (PlS p m bg G bt T en ks nn bc V M A c Hs many).p w) (hl_p : ∀ x_ ∈ (PlS p m bg G bt T en ks nn bc V M A c Hs many).fp, x_ < w.heap.size) (hpl : PlOk nn V M Hs many) : Calls Tryz.prog 56 #[pA p 0, vI .u32 addr, vI .i64 2] w (Fresh 29 1 enU8 (trimC (M addr).2.1) w) := by
 have _hu := ho_p; have _hv := hl_p; clear _hu _hv
 have _hu := hpl; clear _hu
 refine enter_E 31 Tryz.func56 rfl rfl (by kernel_rfl) (L := [(0, pA p 0), (1, vI .u32 addr), (2, vI .i64 2)]) (by kernel_rfl) ?_
 intro ac hA
 have hW := Ws.start w No
 have hW := hW.objG (L := [Cel p #[pA m 0, vM (some bc), vS A Hs.length c, vI .i64 many] 75, ClkS m bg G bt T en ks nn, CmR bc V, rowR 35 3 enHit (vS A Hs.length c) Hs, nestR innerHit Hs]) ho_p hl_p
 clear ho_p hl_p
 have hW := Ws.openG hW 2 rfl
 replace hW : Ws w No [] [mapR bc (fun a : Int => vI .u32 a) (fun x_ : Nat => pA x_ 0) (outs V), SubR ClR V, Cel p #[pA m 0, vM (some bc), vS A Hs.length c, vI .i64 many] 75, ClkS m bg G bt T en ks nn, CmR bc V, rowR 35 3 enHit (vS A Hs.length c) Hs, nestR innerHit Hs] w := hW
 refine wr <| st_p (vS none 0 0) hA ?_; clear hA ac; intro ac hA
 refine wn <| wp_seq <| wp_seq ?_
 rcases hk1 : look (outs V) (addr : Int) with _ | bk2
 ·
  refine wp_region_lit <| st_p (pA p 0) hA ?_; clear hA ac; intro ac hA
  refine st_s hA (Runs.callN (v := vB false) (fun _ => by kernel_rfl) hW (e_vnone p m bc (vS A Hs.length c) (many : Int) w (show _ = _ from (hW).getG 2 rfl)) ?_); clear hA ac hW; intro w3 hW hfw3 ac hA
  refine st_p (vB false) hA fun ac hA => st_p (pA p 0) hA fun ac hA => st_p (pA p 0) hA fun ac hA => st_p (pA p 1) hA fun ac hA => st_q (vM (some bc)) hA hW.cls (Rd.load (b := p) (i := 1) (by kernel_rfl) (fun _ hw => show _ = _ from (hw.1).getG 2 rfl) (by kernel_rfl)) fun ac hA => st_p (vI .u32 addr) hA fun ac hA => st_q (vP none) hA hW.cls ((Rd.lookup (k := 32) (e := 97) (ek := (fun a : Int => vI .u32 a)) (ev := (fun x_ : Nat => pA x_ 0)) (m := (outs V)) (z := vP none) (addr : Int) false (by kernel_rfl) (by kernel_rfl) (KeyE.int (by kernel_rfl)) (by kernel_rfl) (fun _ => by kernel_rfl) (fun _ hw => (hw.1).getG 0 rfl)).cast (by rw [hk1]; rfl)) fun ac hA => st_p (vB true) hA fun ac hA => st_p (vB true) hA fun ac hA => wn <| wp_cond_true (hA.eval (by kernel_rfl)) <| wr <| st_p (vS none 0 0) hA ?_; clear hA ac; intro ac hA
  refine wn <| wp_ret <| thenR <| r1 (vS none 0 0) hA ?_
  clear hA
  rw [hpl.at_none hk1]; exact ⟨_, rfl, World.ownsRow_nil _ _ _ _, hW.fr⟩
 ·
  obtain ⟨i4, c5, hi6, hv7⟩ := outs_at hk1
  have hW := hW.subG 1 rfl hi6
  replace hW : Ws w No [] [ClR c5 bk2, mapR bc (fun a : Int => vI .u32 a) (fun x_ : Nat => pA x_ 0) (outs V), SubR ClR V, Cel p #[pA m 0, vM (some bc), vS A Hs.length c, vI .i64 many] 75, ClkS m bg G bt T en ks nn, CmR bc V, rowR 35 3 enHit (vS A Hs.length c) Hs, nestR innerHit Hs] w := hW
  refine wp_region_lit <| st_p (pA p 0) hA ?_; clear hA ac; intro ac hA
  refine st_s hA (Runs.callN (v := vB false) (fun _ => by kernel_rfl) hW (e_vnone p m bc (vS A Hs.length c) (many : Int) w (show _ = _ from (hW).getG 3 rfl)) ?_); clear hA ac hW; intro w8 hW hfw8 ac hA
  refine st_p (vB false) hA fun ac hA => st_p (pA p 0) hA fun ac hA => st_p (pA p 0) hA fun ac hA => st_p (pA p 1) hA fun ac hA => st_q (vM (some bc)) hA hW.cls (Rd.load (b := p) (i := 1) (by kernel_rfl) (fun _ hw => show _ = _ from (hw.1).getG 3 rfl) (by kernel_rfl)) fun ac hA => st_p (vI .u32 addr) hA fun ac hA => st_q (pA bk2 0) hA hW.cls ((Rd.lookup (k := 32) (e := 97) (ek := (fun a : Int => vI .u32 a)) (ev := (fun x_ : Nat => pA x_ 0)) (m := (outs V)) (z := vP none) (addr : Int) false (by kernel_rfl) (by kernel_rfl) (KeyE.int (by kernel_rfl)) (by kernel_rfl) (fun _ => by kernel_rfl) (fun _ hw => (hw.1).getG 1 rfl)).cast (by rw [hk1]; rfl)) fun ac hA => st_p (vB false) hA fun ac hA => st_p (vB false) hA fun ac hA => wn <| wp_cond_false (hA.eval (by kernel_rfl)) <| wp_skip <| thenN <| wp_seq ?_
  have hW := Ws.openG hW 0 rfl
  replace hW : Ws w No [] [Cel bk2 #[hv0 (c5.1), hv1 (c5.1), hv0 (c5.2), hv1 (c5.2)] 168, HalfR (c5.1), HalfR (c5.2), ClR c5 bk2, mapR bc (fun a : Int => vI .u32 a) (fun x_ : Nat => pA x_ 0) (outs V), SubR ClR V, Cel p #[pA m 0, vM (some bc), vS A Hs.length c, vI .i64 many] 75, ClkS m bg G bt T en ks nn, CmR bc V, rowR 35 3 enHit (vS A Hs.length c) Hs, nestR innerHit Hs] w8 := hW
  obtain ⟨hoX_, hoY_⟩ := hpl.ok_some hv7
  refine wp_cut (fun ac_ wl_ => ∃ Ar3_12 : Option Addr, ∃ cr3_12 : Nat, Fm 31 [] [(0, pA p 0), (1, vI .u32 addr), (6, vS Ar3_12 (trimC (hlf (c5.2))).length cr3_12), (7, pA p 0), (8, vB false), (9, vB false), (10, pA p 0), (11, pA p 0), (12, pA p 1), (13, vM (some bc)), (14, vI .u32 addr), (15, pA bk2 0), (16, vB false), (17, vB false)] ac_ ∧ Ws w No [rowR 29 1 enU8 (vS Ar3_12 (trimC (hlf (c5.2))).length cr3_12) (trimC (hlf (c5.2)))] [Cel bk2 #[hv0 (c5.1), hv1 (c5.1), hv0 (c5.2), hv1 (c5.2)] 168, HalfR (c5.1), HalfR (c5.2), ClR c5 bk2, mapR bc (fun a : Int => vI .u32 a) (fun x_ : Nat => pA x_ 0) (outs V), SubR ClR V, Cel p #[pA m 0, vM (some bc), vS A Hs.length c, vI .i64 many] 75, ClkS m bg G bt T en ks nn, CmR bc V, rowR 35 3 enHit (vS A Hs.length c) Hs, nestR innerHit Hs] wl_) ?_ ?_
  · refine sr_region (m := 14) (C := Ws w No [] [Cel bk2 #[hv0 (c5.1), hv1 (c5.1), hv0 (c5.2), hv1 (c5.2)] 168, HalfR (c5.1), HalfR (c5.2), ClR c5 bk2, mapR bc (fun a : Int => vI .u32 a) (fun x_ : Nat => pA x_ 0) (outs V), SubR ClR V, Cel p #[pA m 0, vM (some bc), vS A Hs.length c, vI .i64 many] 75, ClkS m bg G bt T en ks nn, CmR bc V, rowR 35 3 enHit (vS A Hs.length c) Hs, nestR innerHit Hs]) (fun i => [3, 5].contains i) (fun i => [3, 5, 7].contains i) (fun i => [0, 1, 2, 4, 6, 8, 9, 10, 13].contains i) (by kernel_rfl) (by kernel_rfl) (by kernel_rfl) (by kernel_rfl) hW ?_; clear hW; intro w9 hW hfw9 hR; have hC : Ws w No [] [Cel bk2 #[hv0 (c5.1), hv1 (c5.1), hv0 (c5.2), hv1 (c5.2)] 168, HalfR (c5.1), HalfR (c5.2), ClR c5 bk2, mapR bc (fun a : Int => vI .u32 a) (fun x_ : Nat => pA x_ 0) (outs V), SubR ClR V, Cel p #[pA m 0, vM (some bc), vS A Hs.length c, vI .i64 many] 75, ClkS m bg G bt T en ks nn, CmR bc V, rowR 35 3 enHit (vS A Hs.length c) Hs, nestR innerHit Hs] w9 := hW.pick [] (by decide) rfl
    refine sr_p 0 (pA p 0) hR rfl hA fun ac hA => sr_p 1 (pA p 0) hR rfl hA fun ac hA => sr_p 2 (pA p 1) hR rfl hA fun ac hA => sr_t 3 (vM (some bc)) hR rfl hA hC (Rd.load (b := p) (i := 1) (by kernel_rfl) (fun _ hw => show _ = _ from (hw).getG 6 rfl) (by kernel_rfl)) fun ac hA => sr_p 4 (vI .u32 addr) hR rfl hA fun ac hA => sr_t 5 (pA bk2 0) hR rfl hA hC ((Rd.lookup (k := 32) (e := 97) (ek := (fun a : Int => vI .u32 a)) (ev := (fun x_ : Nat => pA x_ 0)) (m := (outs V)) (z := vP none) (addr : Int) false (by kernel_rfl) (by kernel_rfl) (KeyE.int (by kernel_rfl)) (by kernel_rfl) (fun _ => by kernel_rfl) (fun _ hw => (hw).getG 4 rfl)).cast (by rw [hk1]; rfl)) fun ac hA => sr_p 6 (vI .i64 2) hR rfl hA fun ac hA => sr_p 8 (pA bk2 0) hR rfl hA fun ac hA => sr_one (i := 7) (by kernel_rfl) (sr_d rfl hA (Runs.callN (v := vI .i64 1) (fun _ => by kernel_rfl) hW (e_place2 (2) w9 (by first | omega | assumption)) ?_)); clear hA ac hW; intro w10 hW hfw10 ac hA
    refine ⟨⟨fun _ => (hW.pick [] (by decide) rfl).pickG [0, 1, 2, 3, 4, 5, 6, 7, 8, 9, 10] rfl, fun h => absurd h (by decide)⟩, ?_⟩; have hC : Ws w No [] [Cel bk2 #[hv0 (c5.1), hv1 (c5.1), hv0 (c5.2), hv1 (c5.2)] 168, HalfR (c5.1), HalfR (c5.2), ClR c5 bk2, mapR bc (fun a : Int => vI .u32 a) (fun x_ : Nat => pA x_ 0) (outs V), SubR ClR V, Cel p #[pA m 0, vM (some bc), vS A Hs.length c, vI .i64 many] 75, ClkS m bg G bt T en ks nn, CmR bc V, rowR 35 3 enHit (vS A Hs.length c) Hs, nestR innerHit Hs] w10 := (hW.pick [] (by decide) rfl).pickG [0, 1, 2, 3, 4, 5, 6, 7, 8, 9, 10] rfl
    refine sr_p 9 (pA bk2 2) hR rfl hA fun ac hA => sr_p 10 (pA bk2 2) hR rfl hA fun ac hA => sr_one (i := 11) (by kernel_rfl) (sr_d rfl hA (Runs.ofRd (v := hv0 (c5.2)) (C' := Ws w No [] [Cel bk2 #[hv0 (c5.1), hv1 (c5.1), hv0 (c5.2), hv1 (c5.2)] 168, HalfR (c5.1), HalfR (c5.2), ClR c5 bk2, mapR bc (fun a : Int => vI .u32 a) (fun x_ : Nat => pA x_ 0) (outs V), SubR ClR V, Cel p #[pA m 0, vM (some bc), vS A Hs.length c, vI .i64 many] 75, ClkS m bg G bt T en ks nn, CmR bc V, rowR 35 3 enHit (vS A Hs.length c) Hs, nestR innerHit Hs]) hW (Rd.load (b := bk2) (i := 2) (by kernel_rfl) (fun _ hw => show _ = _ from (hw).getG 0 rfl) (by kernel_rfl)) ?_)); clear hA ac; intro  ac hA
    refine qn <| sr_one (i := 12) (by kernel_rfl) (sr_d rfl hA (Runs.callRow (E := 29) (sz := 1) (en := enU8) (l := (trimC (hlf (c5.2)))) (fun _ => by kernel_rfl) hW (e_vtrimX (c5.2) w10 ((hW).getG 2 rfl) (by first | omega | assumption)) ?_)); clear hA ac hW; intro Ar3_12 cr3_12 w11 hW hccr3_12 hfw11 ac hA
    refine qn <| sr_p 13 (vS Ar3_12 (trimC (hlf (c5.2))).length cr3_12) hR rfl hA ?_; clear hA ac; intro ac hA
    refine sr_done (by kernel_rfl) ?_ _
    exact ⟨Ar3_12, cr3_12, hA.sub (by and_intros <;> first | kernel_rfl | trivial), (hW.pick [0] (by decide) rfl).pickG [0, 1, 2, 3, 4, 5, 6, 7, 8, 9, 10] rfl⟩
  clear hA ac hW; rintro ac w12 ⟨Ar3_12, cr3_12, hA, hW⟩
  refine thenN <| wp_ret <| r1 (vS Ar3_12 (trimC (hlf (c5.2))).length cr3_12) hA ?_
  clear hA
  rw [hpl.at_some hv7]; exact ⟨_, rfl, hW.fresh 0 rfl (fun _ h => h), hW.fr⟩

set_option maxRecDepth 100000 in
theorem e_vstores (p : Nat) (m : Nat) (bg : Nat) (G : List (Int × SV)) (bt : Nat) (T : List (Thing × SV)) (en : Int) (ks : KSt) (nn : Nat) (bc : Nat) (V : VT26) (M : Int → Mk2) (A : Option Addr) (c : Nat) (Hs : List Hit) (many : Int) (addr : Int) (w : World) (ho_p : (PlS p m bg G bt T en ks nn bc V M A c Hs many).p w) (hl_p : ∀ x_ ∈ (PlS p m bg G bt T en ks nn bc V M A c Hs many).fp, x_ < w.heap.size) (hpl : PlOk nn V M Hs many) : Calls Tryz.prog 25 #[pA p 0, vI .u32 addr] w (Fresh 29 1 enU8 (trimC (M addr).1.1) w) := by
 have _hu := ho_p; have _hv := hl_p; clear _hu _hv
 have _hu := hpl; clear _hu
 refine enter_E 8 Tryz.func25 rfl rfl (by kernel_rfl) (L := [(0, pA p 0), (1, vI .u32 addr)]) (by kernel_rfl) ?_
 intro ac hA
 have hW := Ws.start w No
 have hW := hW.addG (PlS p m bg G bt T en ks nn bc V M A c Hs many) ho_p hl_p (by simp)
 have hW := hW.objG (L := [Cel p #[pA m 0, vM (some bc), vS A Hs.length c, vI .i64 many] 75, ClkS m bg G bt T en ks nn, CmR bc V, rowR 35 3 enHit (vS A Hs.length c) Hs, nestR innerHit Hs]) ho_p hl_p
 clear ho_p hl_p
 refine wr <| st_p (vS none 0 0) hA ?_; clear hA ac; intro ac hA
 refine wn <| wr <| st_p (pA p 0) hA fun ac hA => st_p (vI .u32 addr) hA fun ac hA => st_s hA (Runs.callRow (E := 29) (sz := 1) (en := enU8) (l := (trimC (M (addr)).1.1)) (fun _ => by kernel_rfl) hW (e_vclock3 p m bg G bt T en ks nn bc V M A c Hs many (addr) w ((hW).getG 5 rfl) ((hW).glt _ (List.mem_of_getElem? (i := 5) rfl)) (by first | omega | assumption)) ?_); clear hA ac hW; intro A2 c3 w1 hW hcc3 hfw1 ac hA
 refine st_p (vS A2 (trimC (M (addr)).1.1).length c3) hA ?_; clear hA ac; intro ac hA
 refine wn <| wp_ret <| r1 (vS A2 (trimC (M (addr)).1.1).length c3) hA ?_
 clear hA
 refine ⟨_, rfl, ?_, hW.fr⟩
 have hrow := hW.fresh 0 rfl (fun _ h => h)
 exact hrow

set_option maxRecDepth 100000 in
theorem e_vloads (p : Nat) (m : Nat) (bg : Nat) (G : List (Int × SV)) (bt : Nat) (T : List (Thing × SV)) (en : Int) (ks : KSt) (nn : Nat) (bc : Nat) (V : VT26) (M : Int → Mk2) (A : Option Addr) (c : Nat) (Hs : List Hit) (many : Int) (addr : Int) (w : World) (ho_p : (PlS p m bg G bt T en ks nn bc V M A c Hs many).p w) (hl_p : ∀ x_ ∈ (PlS p m bg G bt T en ks nn bc V M A c Hs many).fp, x_ < w.heap.size) (hpl : PlOk nn V M Hs many) : Calls Tryz.prog 24 #[pA p 0, vI .u32 addr] w (Fresh 29 1 enU8 (trimC (M addr).2.1) w) := by
 have _hu := ho_p; have _hv := hl_p; clear _hu _hv
 have _hu := hpl; clear _hu
 refine enter_E 8 Tryz.func24 rfl rfl (by kernel_rfl) (L := [(0, pA p 0), (1, vI .u32 addr)]) (by kernel_rfl) ?_
 intro ac hA
 have hW := Ws.start w No
 have hW := hW.addG (PlS p m bg G bt T en ks nn bc V M A c Hs many) ho_p hl_p (by simp)
 have hW := hW.objG (L := [Cel p #[pA m 0, vM (some bc), vS A Hs.length c, vI .i64 many] 75, ClkS m bg G bt T en ks nn, CmR bc V, rowR 35 3 enHit (vS A Hs.length c) Hs, nestR innerHit Hs]) ho_p hl_p
 clear ho_p hl_p
 refine wr <| st_p (vS none 0 0) hA ?_; clear hA ac; intro ac hA
 refine wn <| wr <| st_p (pA p 0) hA fun ac hA => st_p (vI .u32 addr) hA fun ac hA => st_s hA (Runs.callRow (E := 29) (sz := 1) (en := enU8) (l := (trimC (M (addr)).2.1)) (fun _ => by kernel_rfl) hW (e_vclock2 p m bg G bt T en ks nn bc V M A c Hs many (addr) w ((hW).getG 5 rfl) ((hW).glt _ (List.mem_of_getElem? (i := 5) rfl)) (by first | omega | assumption)) ?_); clear hA ac hW; intro A2 c3 w1 hW hcc3 hfw1 ac hA
 refine st_p (vS A2 (trimC (M (addr)).2.1).length c3) hA ?_; clear hA ac; intro ac hA
 refine wn <| wp_ret <| r1 (vS A2 (trimC (M (addr)).2.1).length c3) hA ?_
 clear hA
 refine ⟨_, rfl, ?_, hW.fr⟩
 have hrow := hW.fresh 0 rfl (fun _ h => h)
 exact hrow

end Go.Proofs.YtoakhhilmnfpkaaGreatDoor.L
