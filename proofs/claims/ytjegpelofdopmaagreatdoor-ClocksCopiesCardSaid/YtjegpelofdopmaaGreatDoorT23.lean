/- Contracts, walked by program over the engine's laws. -/
import Derived.Test.YtjegpelofdopmaaGreatDoorProg
import Derived.Test.YtjegpelofdopmaaGreatDoorSort24
namespace Go.Proofs.YtjegpelofdopmaaGreatDoor.L
open Go.RowKit
open Go.Value renaming int → vI, slice → vS, bool → vB, pointer → vP, func → vF, agg → vA, map → vM, tuple → vT

theorem er_perm {α : Type} {l : List α} {k : Nat} {y : α} (h : l[k]? = some y) : l.Perm (y :: l.eraseIdx k) := by
  induction l generalizing k with
  | nil => cases h
  | cons z l ih =>
    cases k with
    | zero => cases h; exact List.Perm.refl _
    | succ k => exact ((ih (by simpa using h)).cons z).trans (List.Perm.swap _ _ _)
theorem key_of {G : List (Int × SV)} {i : Int} (h : i ∈ keys G) : look G i ≠ none := fun e => look_none.1 e h
theorem keys_len {G : List (Int × SV)} (hn : (keys G).Nodup) (hb : ∀ i ∈ keys G, 0 ≤ i ∧ i ≤ 65535) : G.length ≤ 65536 := by
  have := hn.length_le_of_subset (l₂ := (List.range 65536).map fun i : Nat => (i : Int)) (fun a ha => List.mem_map.2 ⟨a.toNat, List.mem_range.2 (by have := hb a ha; omega), by have := hb a ha; omega⟩)
  simpa [keys] using this
theorem ClkOk.key {en N s G T} (h : ClkOk en N s G T) {i : Int} : i ∈ keys G ↔ s.g i ≠ none := by
  rw [← h.g i]
  constructor
  · intro q e; cases hl : look G i with
    | none => exact look_none.1 hl q
    | some v => rw [hl] at e; cases e
  · intro q; refine Classical.byContradiction fun r => q ?_
    rw [look_none.2 r]; rfl
/-- Goroutines by their numbers, each with its epoch. -/
structure BegOf (s : KSt) (xs : List One5) : Prop where
  srt : xs.Pairwise fun x y => x.gx < y.gx
  mem : ∀ i, (∃ x ∈ xs, x.gx = i) ↔ s.g i ≠ none
  ax : ∀ x ∈ xs, x.ax = packV x.gx (getC (gv s x.gx) x.gx)
theorem beg_of {en N s G T} (h : ClkOk en N s G T) (hn : (keys G).Nodup) {acc xs : List One5} (hp : (acc.map One5.gx).Perm (keys G)) (hx : ∀ x ∈ acc, x.ax = packV x.gx (getC (gv s x.gx) x.gx)) (hq : xs.Perm acc) (hs : xs.Pairwise fun x y => x.gx ≤ y.gx) : BegOf s xs := by
  have hk : (xs.map One5.gx).Perm (keys G) := (hq.map _).trans hp
  have hd : (xs.map One5.gx).Nodup := hk.nodup_iff.2 hn
  refine ⟨?_, fun i => ?_, fun x h => hx x (hq.mem_iff.1 h)⟩
  · have h1 : xs.Pairwise fun x y => x.gx ≠ y.gx := by unfold List.Nodup at hd; rw [List.pairwise_map] at hd; exact hd
    exact (hs.and h1).imp fun ⟨a, b⟩ => by omega
  · rw [← h.key, ← hk.mem_iff, List.mem_map]
theorem clk_gvb {en N s G T} (h : ClkOk en N s G T) (i : Int) : Bd ((N : Int) + 1) (gv s i) := by rw [← h.gv i]; exact h.bd _ (nv_g _)
set_option maxRecDepth 100000 in
theorem e_kbegunI (m : Nat) (bg : Nat) (G : List (Int × SV)) (bt : Nat) (T : List (Thing × SV)) (en : Int) (ks : KSt) (nn : Nat) (w : World) (ho_c : (ClkR m bg G bt T en ks nn).p w) (hl_c : ∀ x_ ∈ (ClkR m bg G bt T en ks nn).fp, x_ < w.heap.size) (hok : ClkOk en nn ks G T) (hnn : nn ≤ 4095) : Calls Tryz.prog 24 #[pA m 0] w (fun e w' => ∃ (lb : Array Value) (g : Res), e = .returned (vF (.func 60) #[] lb) ∧ Iter Tryz.prog 60 lb (fun x_ : One5 => #[vI .i64 x_.gx, vI .u64 x_.ax]) (BegOf ks) [g] ∧ g.from_ [] w w' ∧ Fr No w w') := by
 have _hu := ho_c; have _hv := hl_c; clear _hu _hv
 have _hu := hok; clear _hu
 have _hu := hnn; clear _hu
 have he1_ := hok.e1; have he2_ := hok.e2
 refine enter_E 40 Tryz.func24 rfl rfl (by kernel_rfl) (L := [(0, pA m 0)]) (by kernel_rfl) ?_
 intro ac hA
 have hW := Ws.start w No
 have hW := hW.addG (ClkR m bg G bt T en ks nn) ho_c hl_c (by simp)
 have hW := hW.objG (L := [Cel m #[vM (some bg), vM (some bt), vI .u64 en] 77, mapR bg (fun a : Int => vI .i64 a) SV.v G, mapR bt Thing.v SV.v T, nestR innerSV (NV [] G T)]) ho_c hl_c
 clear ho_c hl_c
 refine wr <| st_p (Value.nilFunc) hA ?_; clear hA ac; intro ac hA
 refine wn <| wr <| st_s hA (Runs.cells (fun b => pA b 0) #[vS none 0 0] 116 (fun _ => by kernel_rfl) hW ?_); clear hA ac hW; intro b1 w2 hW hb1 hfw2 ac hA
 refine wn <| wp_seq <| wr <| st_p (pA m 0) hA ?_; clear hA ac; intro ac hA
 refine st_s hA (Runs.callN (v := vB false) (fun _ => by kernel_rfl) hW (e_knone m bg G bt T en ks nn w2 ((hW).getG 4 rfl) ((hW).glt _ (List.mem_of_getElem? (i := 4) rfl)) (by first | omega | assumption)) ?_); clear hA ac hW; intro w3 hW hfw3 ac hA
 refine st_p (vB true) hA ?_; clear hA ac; intro ac hA
 refine wn <| wp_cond_true (hA.eval (by kernel_rfl)) <| wp_seq ?_
 have hkn_ : (keys G).Nodup := mapAt.keysNodup (hW.getG 1 rfl)
 have hgl_ := keys_len hkn_ (fun i_ hi_ => hok.rng i_ (hok.key.1 hi_))
 refine wp_region_lit <| st_p (pA m 0) hA fun ac hA => st_p (pA m 0) hA fun ac hA => st_p (pA m 0) hA fun ac hA => st_p (pA m 0) hA fun ac hA => st_q (vM (some bg)) hA hW.cls (Rd.load (b := m) (i := 0) (by kernel_rfl) (fun _ hw => show _ = _ from (hw.1).getG 0 rfl) (by kernel_rfl)) fun ac hA => st_s hA (Runs.range (k := 3) (e := 34) (ek := (fun a : Int => vI .i64 a)) (ev := SV.v) (m := G) (by kernel_rfl) (by kernel_rfl) hW 1 rfl ?_); clear hA ac hW; intro r4 es5 ck6 w7 hnr4 hW hfw7 ac hA
 refine wn <| wp_block ?_
 have hW := hW.addNil 119 2 enOne5
 refine wp_loop_m (fun m_ ac_ wl_ => ∃ left : List (Int × SV), ∃ cur : Option (Int × SV), ∃ acc : List One5, ∃ A : Option Addr, ∃ cc : Nat, m_ = left.length ∧ ((acc.map One5.gx ++ left.map (·.1)).Perm (keys G)) ∧ (∀ x ∈ acc, 0 ≤ x.gx ∧ x.gx ≤ 65535) ∧ (∀ x ∈ acc, x.ax = packV x.gx (getC (gv ks x.gx) x.gx)) ∧ (acc.length ≤ cc) ∧ Fm 40 [] [(0, pA m 0), (3, pA b1 0), (15, pA r4 0)] ac_ ∧ Ws w No [rowR 119 2 enOne5 (vS A acc.length cc) acc, IterX r4 bg es5 ck6 (fun a : Int => vI .i64 a) SV.v left cur, Cel b1 #[vS A acc.length cc] 116] [MapX bg es5 ck6, Cel m #[vM (some bg), vM (some bt), vI .u64 en] 77, mapR bg (fun a : Int => vI .i64 a) SV.v G, mapR bt Thing.v SV.v T, nestR innerSV (NV [] G T), ClkR m bg G bt T en ks nn] wl_) _ ⟨G, none, [], none, 0, rfl, by exact List.Perm.refl _, by simp, by simp, by simp, hA.sub (by and_intros <;> first | kernel_rfl | trivial), (hW.pick [0, 1, 2] (by decide) rfl).pickG [0, 1, 2, 3, 4, 5] rfl⟩ ?_
 clear hA ac hW; rintro m_ ac w8 ⟨left, cur, acc, A, cc, rfl, hp, hab, hax, hcc, hA, hW⟩
 have hpl_ := hp.length_eq; simp only [List.length_append, List.length_map, keys] at hpl_
 refine wr <| st_s hA ((Runs.next (ek := (fun a : Int => vI .i64 a)) (ev := SV.v) (r := r4) (b := bg) (es := es5) (clock := ck6) (left := left) (cur := cur) (by kernel_rfl) hnr4 hW 1 0 rfl rfl ?_ ?_))
 ·
  intro hdoner4 ac hA
  refine st_p (vB false) hA ?_; clear hA ac; intro ac hA
  refine wn <| wp_seq <| wp_cond_false (hA.eval (by kernel_rfl)) <| wp_exit <| thenX <| thenX <| blkX <| thenN <| wp_seq ?_
  have hp_ := hp; rw [hdoner4, List.map_nil, List.append_nil] at hp_
  refine wp_region_lit <| st_q (vS A acc.length cc) hA hW.cls (rl b1 0 2) ?_; clear hA ac; intro ac hA
  refine st_s hA (Runs.call (fun _ => by kernel_rfl) (e_sorted (A := A) (c := cc) (l := acc) w8 (hW.get 0 rfl) (by have := hp_.length_eq; simp [keys] at this; first | omega | simp) (fun x hx => hab x hx)) ?_)
  rintro _ w12 ⟨rfl, l13, hperm_, hsort_, hu_⟩; refine ⟨_, rfl, ?_⟩; have hlen_ := hperm_.length_eq; replace hW := hW.upd 0 rfl hu_ rfl; rw [← hlen_] at hW ⊢; clear hA ac; intro ac hA
  refine st_s hA (Runs.store (v := vS A l13.length cc) (b := b1) (j := 0) (n := 1) (cs' := #[vS A l13.length cc]) (H' := [rowR 119 2 enOne5 (vS A l13.length cc) l13, IterX r4 bg es5 ck6 (fun a : Int => vI .i64 a) SV.v left cur, Cel b1 #[vS A l13.length cc] 116]) (by kernel_rfl) (by kernel_rfl) (by kernel_rfl) (by kernel_rfl) (by kernel_rfl) hW 2 (by rfl) (Nat.le_of_ble_eq_true (by kernel_rfl)) (by kernel_rfl) (by rfl) ?_); clear hA ac hW; intro w14 hW ac hA
  refine wn <| wr <| st_p (vF (.func 60) #[] #[pA b1 0]) hA fun ac hA => st_p (vF (.func 60) #[] #[pA b1 0]) hA fun ac hA => wn <| wp_ret <| r1 (vF (.func 60) #[] #[pA b1 0]) hA ?_
  clear hA
  have hl9_ : l13.length ≤ 1000000 := by have h1_ := hp_.length_eq; have h2_ := hperm_.length_eq; simp only [List.length_map, keys] at h1_; omega
  exact ⟨_, _, rfl, iter_weak (iter_many (it_60 b1 _ _ l13 (own_cap (hW.get 0 rfl)) hl9_)) (beg_of hok hkn_ hp_ hax hperm_ hsort_), from_many (froms_cons (hW.outOwn 2 rfl (fun _ h => h)) (froms_cons (hW.outRow 0 rfl elt_One5.len (fun _ h => h)) froms_nil)), hW.fr⟩
 ·
  clear hA ac; intro k9 y10 w11 hkk9 hW ac hA
  refine st_p (vB true) hA ?_; clear hA ac; intro ac hA
  refine wn <| wp_seq <| wp_cond_true (hA.eval (by kernel_rfl)) <| wp_skip <| thenN <| wp_block <| wr <| st_q (vT #[vI .i64 y10.1, vS y10.2.l_A y10.2.l.length y10.2.l_c]) hA hW.cls (Rd.entry (ek := (fun a : Int => vI .i64 a)) (ev := SV.v) (r := r4) (b := bg) (es := es5) (clock := ck6) (left := (List.eraseIdx left k9)) (y := y10) (by kernel_rfl) hnr4 (fun _ hw => show _ = _ from (hw.1).getG 0 rfl) (fun _ hw => (hw.1).get 1 rfl)) fun ac hA => st_p (vI .i64 y10.1) hA fun ac hA => st_p (vI .i64 y10.1) hA fun ac hA => wn <| wp_seq ?_
  have hyb_ := hok.rng y10.1 (hok.key.1 (hp.mem_iff.1 (List.mem_append_right _ (List.mem_map.2 ⟨_, List.mem_of_getElem? hkk9, rfl⟩))))
  have hyc_ := getC_bd (clk_gvb hok y10.1).2 (by omega) y10.1
  refine wp_region_lit <| st_p (vI .i64 y10.1) hA fun ac hA => st_p (pA m 0) hA fun ac hA => st_p (pA m 0) hA fun ac hA => st_p (pA m 0) hA fun ac hA => st_q (vA #[vM (some bg), vM (some bt)]) hA hW.cls (Rd.load (b := m) (i := 0) (by kernel_rfl) (fun _ hw => show _ = _ from (hw.1).getG 1 rfl) (by kernel_rfl)) fun ac hA => st_p (vI .i64 y10.1) hA fun ac hA => st_s hA (Runs.callN (v := vI .u64 (getC (gv ks (y10.1)) (y10.1))) (fun _ => by kernel_rfl) hW (e_kown bg G bt T en ks nn (y10.1) w11 ((hW).getG 2 rfl) ((hW).getG 3 rfl) ((hW).getG 4 rfl) (by first | omega | assumption) (by first | omega | assumption)) ?_); clear hA ac hW; intro w15 hW hfw15 ac hA
  refine st_s hA (Runs.callN (v := vT #[vI .u64 (packV (y10.1) (getC (gv ks (y10.1)) (y10.1))), vI .i64 (argErr (packOk (y10.1) (getC (gv ks (y10.1)) (y10.1))))]) (fun _ => by kernel_rfl) hW (e_pack (y10.1) (getC (gv ks (y10.1)) (y10.1)) w15 (by first | omega | assumption) (by first | omega | assumption)) ?_); clear hA ac hW; intro w16 hW hfw16 ac hA
  refine st_p (vT #[vI .u64 (packV (y10.1) (getC (gv ks (y10.1)) (y10.1))), vI .i64 (argErr (packOk (y10.1) (getC (gv ks (y10.1)) (y10.1))))]) hA fun ac hA => st_p (vI .u64 (packV (y10.1) (getC (gv ks (y10.1)) (y10.1)))) hA fun ac hA => st_p (vI .i64 (argErr (packOk (y10.1) (getC (gv ks (y10.1)) (y10.1))))) hA fun ac hA => st_p (vI .u64 (packV (y10.1) (getC (gv ks (y10.1)) (y10.1)))) hA fun ac hA => st_p (vI .i64 (argErr (packOk (y10.1) (getC (gv ks (y10.1)) (y10.1))))) hA fun ac hA => wn <| wp_region_lit <| st_q (vS A acc.length cc) hA hW.cls (rl b1 0 2) fun ac hA => st_p (vI .i64 y10.1) hA fun ac hA => st_p (vI .u64 (packV (y10.1) (getC (gv ks (y10.1)) (y10.1)))) hA fun ac hA => st_p (vA #[vI .i64 y10.1, vI .u64 (packV (y10.1) (getC (gv ks (y10.1)) (y10.1)))]) hA fun ac hA => st_s hA (Runs.cells (fun b => vS (some ⟨b, 0, none⟩) 1 1) #[vI .i64 y10.1, vI .u64 (packV (y10.1) (getC (gv ks (y10.1)) (y10.1)))] 119 (fun _ => by kernel_rfl) hW ?_); clear hA ac hW; intro b17 w18 hW hb17 hfw18 ac hA
  refine st_s hA (Runs.appOwn (B := (some ⟨b17, 0, none⟩)) (k := 1) (E := 119) (sz := 2) (en := enOne5) (l := acc) (m := ([(⟨y10.1, packV (y10.1) (getC (gv ks (y10.1)) (y10.1))⟩ : One5)] : List One5)) (i := 1) (by kernel_rfl) (by kernel_rfl) elt_One5 (by kernel_rfl) hW rfl (rowAt_cel ((hW).cel 0 rfl) ([(⟨y10.1, packV (y10.1) (getC (gv ks (y10.1)) (y10.1))⟩ : One5)] : List One5) (by rfl) elt_One5.len) (by first | omega | (simp; done) | (simp; omega)) (by first | omega | (simp; done) | (simp; omega)) ?_); clear hA ac hW; intro A19 c20 w21 hW hcc20 ac hA
  refine st_s hA (Runs.store (v := vS A19 (acc ++ ([(⟨y10.1, packV (y10.1) (getC (gv ks (y10.1)) (y10.1))⟩ : One5)] : List One5)).length c20) (b := b1) (j := 0) (n := 1) (cs' := #[vS A19 (acc ++ ([(⟨y10.1, packV (y10.1) (getC (gv ks (y10.1)) (y10.1))⟩ : One5)] : List One5)).length c20]) (H' := [Cel b17 #[vI .i64 y10.1, vI .u64 (packV (y10.1) (getC (gv ks (y10.1)) (y10.1)))] 119, rowR 119 2 enOne5 (vS A19 (acc ++ ([(⟨y10.1, packV (y10.1) (getC (gv ks (y10.1)) (y10.1))⟩ : One5)] : List One5)).length c20) (acc ++ ([(⟨y10.1, packV (y10.1) (getC (gv ks (y10.1)) (y10.1))⟩ : One5)] : List One5)), IterX r4 bg es5 ck6 (fun a : Int => vI .i64 a) SV.v (List.eraseIdx left k9) (some y10), Cel b1 #[vS A19 (acc ++ ([(⟨y10.1, packV (y10.1) (getC (gv ks (y10.1)) (y10.1))⟩ : One5)] : List One5)).length c20] 116]) (by kernel_rfl) (by kernel_rfl) (by kernel_rfl) (by kernel_rfl) (by kernel_rfl) hW 3 (by rfl) (Nat.le_of_ble_eq_true (by kernel_rfl)) (by kernel_rfl) (by rfl) ?_); clear hA ac hW; intro w22 hW ac hA
  refine wpList_nil <| blkN <| thenN ?_
  have hlt_ := er_len_ hkk9
  exact ⟨(List.eraseIdx left k9).length, by omega, List.eraseIdx left k9, (some y10), acc ++ ([(⟨y10.1, packV (y10.1) (getC (gv ks (y10.1)) (y10.1))⟩ : One5)] : List One5), A19, c20, rfl, by rw [List.map_append, List.append_assoc]; exact (((er_perm hkk9).symm.map (·.1)).append_left _).trans hp, by intro x_ hx_; rcases List.mem_append.1 hx_ with hx_ | hx_; exact hab x_ hx_; (rw [List.mem_singleton.1 hx_]; exact hyb_), by intro x_ hx_; rcases List.mem_append.1 hx_ with hx_ | hx_; exact hax x_ hx_; (rw [List.mem_singleton.1 hx_]), by exact (own_cap ((hW).get 1 rfl)), hA.sub (by and_intros <;> first | kernel_rfl | trivial), (hW.pick [1, 2, 3] (by decide) rfl).pickG [0, 1, 2, 3, 4, 5] rfl⟩

end Go.Proofs.YtjegpelofdopmaaGreatDoor.L
