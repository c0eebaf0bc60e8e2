/- Contracts, walked by program over the engine's laws. -/
import Derived.Test.YtjegpelofdopmaaGreatDoorProg
import Derived.Test.YtjegpelofdopmaaGreatDoorT24
import Derived.Test.YtjegpelofdopmaaGreatDoorClone24
namespace Go.Proofs.YtjegpelofdopmaaGreatDoor.L
open Go.RowKit
open Go.Value renaming int → vI, slice → vS, bool → vB, pointer → vP, func → vF, agg → vA, map → vM, tuple → vT

def enEpo (x : Int) : List Value := [.int .u64 x]
theorem elt_Epo : Elt Tryz.prog 43 1 enEpo := ⟨⟨vI .u64 0, 8, by kernel_rfl, rfl, by decide⟩, by decide, fun _ => rfl, fun x u hu => List.all_eq_true.1 (show (enEpo x).all (·.oneCell') = true from rfl) u hu⟩
theorem come_no0 {en : Int} {s s' : KSt} {a er : Int} {x : Event} (h : (s', a, er) = comeK en s x) (her : er ≠ 0) : s' = s := by
  unfold comeK at h; split at h
  · rename_i q; exact absurd (congrArg (fun z => z.2.2) h) her
  · exact congrArg Prod.fst h
theorem come_is0 {en : Int} {s s' : KSt} {a er : Int} {x : Event} (h : (s', a, er) = comeK en s x) (her : er = 0) : comeErr en s x = 0 ∧ s' = comeS s x ∧ a = comeAt s x := by
  unfold comeK at h; split at h
  · rename_i q; exact ⟨q, congrArg Prod.fst h, congrArg (fun z => z.2.1) h⟩
  · rename_i q; exact absurd ((congrArg (fun z => z.2.2) h).symm.trans her) q
/-- What they know is what comes of some events. -/
def Reach (en : Int) (s : KSt) : Prop := ∃ E, Came en E ∧ s = stK E
theorem Reach.start {en : Int} : Reach en kst0 := ⟨[], .nil, rfl⟩
theorem Reach.own {en : Int} {s : KSt} (h : Reach en s) {x : Event} (hb : s.g x.g ≠ none) : getC (kacc s x) x.g = getC (gv s x.g) x.g := by
  obtain ⟨E, hE, rfl⟩ := h; exact (hE.inv.own hb).1.trans (hE.inv.own hb).2.symm
theorem Reach.come {en : Int} {s s' : KSt} {a er : Int} {x : Event} (h : Reach en s) (hc : (s', a, er) = comeK en s x) : Reach en s' := by
  by_cases q : er = 0
  · obtain ⟨h1, h2, -⟩ := come_is0 hc q
    obtain ⟨E, hE, rfl⟩ := h
    exact ⟨E ++ [x], hE.snoc h1, by rw [h2, stK_snoc]⟩
  · rw [come_no0 hc q]; exact h
/-- Events come until one is refused. -/
def allK (en : Int) (s : KSt) : List Event → KSt × List Int × Int
  | [] => (s, [], 0)
  | x :: l => if (comeK en s x).2.2 = 0 then ((allK en (comeK en s x).1 l).1, (comeK en s x).2.1 :: (allK en (comeK en s x).1 l).2.1, (allK en (comeK en s x).1 l).2.2) else ((comeK en s x).1, [], (comeK en s x).2.2)
set_option maxRecDepth 100000 in
set_option maxRecDepth 100000 in
theorem e_kcopy (m : Nat) (bg : Nat) (G : List (Int × SV)) (bt : Nat) (T : List (Thing × SV)) (en : Int) (ks : KSt) (nn : Nat) (w : World) (ho_c : (ClkR m bg G bt T en ks nn).p w) (hl_c : ∀ x_ ∈ (ClkR m bg G bt T en ks nn).fp, x_ < w.heap.size) (hok : ClkOk en nn ks G T) : Calls Tryz.prog 23 #[pA m 0] w (fun e w' => ∃ m' : Nat, ∃ bg' : Nat, ∃ bt' : Nat, e = .returned (vP (some ⟨m', 0, none⟩)) ∧ Made (ClkS m' bg' G bt' T en ks nn) w w') := by
 have _hu := ho_c; have _hv := hl_c; clear _hu _hv
 have _hu := hok; clear _hu
 have he1_ := hok.e1; have he2_ := hok.e2
 refine enter_E 24 Tryz.func23 rfl rfl (by kernel_rfl) (L := [(0, pA m 0)]) (by kernel_rfl) ?_
 intro ac hA
 have hW := Ws.start w No
 have hW := hW.addG (ClkR m bg G bt T en ks nn) ho_c hl_c (by simp)
 have hW := hW.objG (L := [Cel m #[vM (some bg), vM (some bt), vI .u64 en] 77, mapR bg (fun a : Int => vI .i64 a) SV.v G, mapR bt Thing.v SV.v T, nestR innerSV (NV [] G T)]) ho_c hl_c
 clear ho_c hl_c
 refine wr <| st_p (vP none) hA ?_; clear hA ac; intro ac hA
 refine wn <| wp_seq <| wr <| st_p (pA m 0) hA ?_; clear hA ac; intro ac hA
 refine st_s hA (Runs.callN (v := vB false) (fun _ => by kernel_rfl) hW (e_knone m bg G bt T en ks nn w ((hW).getG 4 rfl) ((hW).glt _ (List.mem_of_getElem? (i := 4) rfl)) (by first | omega | assumption)) ?_); clear hA ac hW; intro w1 hW hfw1 ac hA
 refine wn <| wp_cond_false (hA.eval (by kernel_rfl)) <| wp_skip <| thenN <| wp_seq <| wp_cut (fun ac_ wl_ => ∃ br3_18 : Nat, ∃ n0r3_11 : Nat, ∃ n0r3_5 : Nat, Fm 24 [] [(0, pA m 0), (2, pA br3_18 0), (3, pA m 0), (4, vB false)] ac_ ∧ Ws w No [Cel br3_18 #[vM (some n0r3_5), vM (some n0r3_11), vI .u64 en] 77, mapR n0r3_11 Thing.v SV.v T, mapR n0r3_5 (fun a : Int => vI .i64 a) SV.v G] [Cel m #[vM (some bg), vM (some bt), vI .u64 en] 77, mapR bg (fun a : Int => vI .i64 a) SV.v G, mapR bt Thing.v SV.v T, nestR innerSV (NV [] G T), ClkR m bg G bt T en ks nn] wl_) ?_ ?_
 · refine sr_region (m := 20) (C := Ws w No [] [Cel m #[vM (some bg), vM (some bt), vI .u64 en] 77, mapR bg (fun a : Int => vI .i64 a) SV.v G, mapR bt Thing.v SV.v T, nestR innerSV (NV [] G T), ClkR m bg G bt T en ks nn]) (fun i => [4, 10, 16].contains i) (fun i => [4, 5, 10, 11, 16].contains i) (fun i => [0, 1, 2, 3, 6, 7, 8, 9, 12, 13, 14, 15, 17, 19].contains i) (by kernel_rfl) (by kernel_rfl) (by kernel_rfl) (by kernel_rfl) hW ?_; clear hW; intro w2 hW hfw2 hR; have hC : Ws w No [] [Cel m #[vM (some bg), vM (some bt), vI .u64 en] 77, mapR bg (fun a : Int => vI .i64 a) SV.v G, mapR bt Thing.v SV.v T, nestR innerSV (NV [] G T), ClkR m bg G bt T en ks nn] w2 := hW.pick [] (by decide) rfl
   refine sr_p 0 (pA m 0) hR rfl hA fun ac hA => sr_p 1 (pA m 0) hR rfl hA fun ac hA => sr_p 2 (pA m 0) hR rfl hA fun ac hA => sr_p 3 (pA m 0) hR rfl hA fun ac hA => sr_t 4 (vM (some bg)) hR rfl hA hC (Rd.load (b := m) (i := 0) (by kernel_rfl) (fun _ hw => show _ = _ from (hw).getG 0 rfl) (by kernel_rfl)) fun ac hA => sr_p 6 (pA m 0) hR rfl hA fun ac hA => sr_p 7 (pA m 0) hR rfl hA fun ac hA => sr_p 8 (pA m 0) hR rfl hA fun ac hA => sr_p 9 (pA m 1) hR rfl hA fun ac hA => sr_t 10 (vM (some bt)) hR rfl hA hC (Rd.load (b := m) (i := 1) (by kernel_rfl) (fun _ hw => show _ = _ from (hw).getG 0 rfl) (by kernel_rfl)) fun ac hA => sr_p 13 (pA m 0) hR rfl hA fun ac hA => sr_p 14 (pA m 0) hR rfl hA fun ac hA => sr_p 15 (pA m 2) hR rfl hA fun ac hA => sr_t 16 (vI .u64 en) hR rfl hA hC (Rd.load (b := m) (i := 2) (by kernel_rfl) (fun _ hw => show _ = _ from (hw).getG 0 rfl) (by kernel_rfl)) fun ac hA => sr_one (i := 5) (by kernel_rfl) (sr_d rfl hA (Runs.call (fun _ => by kernel_rfl) (e_cloneG w2 ((hW).getG 1 rfl)) ?_))
   rintro _ w3 ⟨n0r3_5, rfl, hu_⟩; refine ⟨_, rfl, ?_⟩; replace hW := hW.made hu_; clear hA ac; intro ac hA
   refine ⟨⟨fun _ => (hW.pick [] (by decide) rfl).pickG [0, 1, 2, 3, 4] rfl, fun h => absurd h (by decide)⟩, ?_⟩; have hC : Ws w No [] [Cel m #[vM (some bg), vM (some bt), vI .u64 en] 77, mapR bg (fun a : Int => vI .i64 a) SV.v G, mapR bt Thing.v SV.v T, nestR innerSV (NV [] G T), ClkR m bg G bt T en ks nn] w3 := (hW.pick [] (by decide) rfl).pickG [0, 1, 2, 3, 4] rfl
   refine sr_one (i := 11) (by kernel_rfl) (sr_d rfl hA (Runs.call (fun _ => by kernel_rfl) (e_cloneT w3 ((hW).getG 2 rfl)) ?_))
   rintro _ w4 ⟨n0r3_11, rfl, hu_⟩; refine ⟨_, rfl, ?_⟩; replace hW := hW.made hu_; clear hA ac; intro ac hA
   refine ⟨⟨fun _ => (hW.pick [] (by decide) rfl).pickG [0, 1, 2, 3, 4] rfl, fun h => absurd h (by decide)⟩, ?_⟩; have hC : Ws w No [] [Cel m #[vM (some bg), vM (some bt), vI .u64 en] 77, mapR bg (fun a : Int => vI .i64 a) SV.v G, mapR bt Thing.v SV.v T, nestR innerSV (NV [] G T), ClkR m bg G bt T en ks nn] w4 := (hW.pick [] (by decide) rfl).pickG [0, 1, 2, 3, 4] rfl
   refine sr_p 12 (vA #[vM (some n0r3_5), vM (some n0r3_11)]) hR rfl hA fun ac hA => sr_p 17 (vA #[vM (some n0r3_5), vM (some n0r3_11), vI .u64 en]) hR rfl hA fun ac hA => sr_one (i := 18) (by kernel_rfl) (sr_d rfl hA (Runs.cells (fun b => pA b 0) #[vM (some n0r3_5), vM (some n0r3_11), vI .u64 en] 77 (fun _ => by kernel_rfl) hW ?_)); clear hA ac hW; intro br3_18 w5 hW hbr3_18 hfw5 ac hA
   refine qn <| sr_p 19 (pA br3_18 0) hR rfl hA ?_; clear hA ac; intro ac hA
   refine sr_done (by kernel_rfl) ?_ _
   exact ⟨br3_18, n0r3_11, n0r3_5, hA.sub (by and_intros <;> first | kernel_rfl | trivial), (hW.pick [0, 1, 2] (by decide) rfl).pickG [0, 1, 2, 3, 4] rfl⟩
 clear hA ac hW; rintro ac w6 ⟨br3_18, n0r3_11, n0r3_5, hA, hW⟩
 refine thenN <| wp_ret <| r1 (pA br3_18 0) hA ?_
 clear hA
 have hW : Ws w No [ClkS br3_18 n0r3_5 G n0r3_11 T en ks nn] [Cel m #[vM (some bg), vM (some bt), vI .u64 en] 77, mapR bg (fun a : Int => vI .i64 a) SV.v G, mapR bt Thing.v SV.v T, nestR innerSV (NV [] G T), ClkR m bg G bt T en ks nn] w6 := Ws.pack (K := []) (hW.pick [0, 2, 1] (by decide) rfl)
 exact ⟨br3_18, n0r3_5, n0r3_11, rfl, hW.madeDone 0 rfl⟩

end Go.Proofs.YtjegpelofdopmaaGreatDoor.L
