/- Contracts, walked by program over the engine's laws. -/
import Derived.Test.YtoakhhilmnfpkaaGreatDoorProg
import Derived.Test.YtoakhhilmnfpkaaGreatDoorT22P
namespace Go.Proofs.YtoakhhilmnfpkaaGreatDoor.L
open Go.RowKit
open Go.Value renaming int → vI, slice → vS, bool → vB, pointer → vP, func → vF, agg → vA, map → vM, tuple → vT

theorem getC_at2 {c : List Int} {i : Int} {y : Int} (h0 : 0 ≤ i) (h : c[i.toNat]? = some y) : y = getC c i := by unfold getC; rw [if_neg (by omega), h]; rfl
structure Acc where
  g : Int
  s : Site
  k : Int
deriving DecidableEq
def Acc.v (x : Acc) : Value := .agg #[.int .i64 x.g, .int .i64 x.s.f, .int .i64 x.s.pc, .int .i64 x.k]
def enAcc (x : Acc) : List Value := [.int .i64 x.g, .int .i64 x.s.f, .int .i64 x.s.pc, .int .i64 x.k]
set_option maxRecDepth 100000 in
theorem eqIn_Acc (d : Nat) (a b : Acc) (w : World) : (Op.equalIn (d + 3) 52 a.v b.v).run Tryz.prog w = .ok (decide (a = b)) w := by
  have h := eq_struct (P := Tryz.prog) (d := d + 2) (t := 52) (u := a.v) (v := b.v) rfl rfl (by kernel_rfl) (by kernel_rfl) (eqF_cons { name := "G", type := 3, offset := 0, embedded := false, tag := "", pkgPath := "", byteOffset := 0 } (fs := [{ name := "Site", type := 40, offset := 1, embedded := false, tag := "", pkgPath := "", byteOffset := 8 }, { name := "Kind", type := 38, offset := 3, embedded := false, tag := "", pkgPath := "", byteOffset := 24 }]) (u := vI .i64 a.g) (v := vI .i64 b.g) (r := (a.g == b.g)) (by kernel_rfl) (by decide) (fun _ => by kernel_rfl) (fun _ => by kernel_rfl) (fun _ => by kernel_rfl) (eqF_cons { name := "Site", type := 40, offset := 1, embedded := false, tag := "", pkgPath := "", byteOffset := 8 } (fs := [{ name := "Kind", type := 38, offset := 3, embedded := false, tag := "", pkgPath := "", byteOffset := 24 }]) (u := a.s.v) (v := b.s.v) (r := decide (a.s = b.s)) (by kernel_rfl) (by decide) (fun _ => by kernel_rfl) (fun _ => by kernel_rfl) (eqIn_Site (d + 0) a.s b.s) (eqF_cons { name := "Kind", type := 38, offset := 3, embedded := false, tag := "", pkgPath := "", byteOffset := 24 } (fs := []) (u := vI .i64 a.k) (v := vI .i64 b.k) (r := (a.k == b.k)) (by kernel_rfl) (by decide) (fun _ => by kernel_rfl) (fun _ => by kernel_rfl) (fun _ => by kernel_rfl) (eqF_nil (by kernel_rfl))))) w
  rw [h]; congr 1
  obtain ⟨x0, x1, x2⟩ := a; obtain ⟨y0, y1, y2⟩ := b; rw [Bool.eq_iff_iff]; simp
theorem eq_Acc (w : World) (a b : Acc) : (Op.equal 52 a.v b.v).run Tryz.prog w = .ok (decide (a = b)) w := eqIn_Acc 9997 a b w
theorem Acc.eqi (a b : Acc) : a = b ↔ a.g = b.g ∧ a.s.f = b.s.f ∧ a.s.pc = b.s.pc ∧ a.k = b.k := by
  obtain ⟨x0, x1, x2⟩ := a; obtain ⟨y0, y1, y2⟩ := b; first | (simp [Site.eqi]; done) | (simp [Site.eqi, and_assoc]; done)
theorem elt_Acc : Elt Tryz.prog 52 4 enAcc := ⟨⟨vA #[vI .i64 0, vI .i64 0, vI .i64 0, vI .i64 0], 32, by kernel_rfl, rfl, by decide⟩, by decide, fun _ => rfl, fun x u hu => List.all_eq_true.1 (show (enAcc x).all (·.oneCell') = true from rfl) u hu⟩
/-- Does one of a goroutine race with what comes of another one? -/
def raceB (l : List Int) (g : Int) (c : List Int) (i : Int) : Bool := decide (i ≠ g ∧ getC l i > getC c i)
def racesP (l : List Int) (h : List (Int × Site)) (g : Int) (c : List Int) (k : Int) (n : Nat) : List Acc := ((List.range n).filter fun i : Nat => raceB l g c (i : Int)).map fun i : Nat => ⟨(i : Int), (look h (i : Int)).getD ⟨0, 0⟩, k⟩
def racesL (l : List Int) (h : List (Int × Site)) (g : Int) (c : List Int) (k : Int) : List Acc := racesP l h g c k l.length
theorem races_snoc (l : List Int) (h : List (Int × Site)) (g : Int) (c : List Int) (k : Int) (n : Nat) : racesP l h g c k (n + 1) = racesP l h g c k n ++ if raceB l g c (n : Int) = true then [⟨(n : Int), (look h (n : Int)).getD ⟨0, 0⟩, k⟩] else [] := by
  unfold racesP; rw [List.range_succ, List.filter_append, List.map_append]; congr 1
  by_cases q : raceB l g c (n : Int) = true
  · rw [if_pos q]; simp [q]
  · rw [if_neg q]; simp [q]
theorem races_len (l : List Int) (h : List (Int × Site)) (g : Int) (c : List Int) (k : Int) (n : Nat) : (racesP l h g c k n).length ≤ n := by
  unfold racesP; rw [List.length_map]; have := List.length_filter_le (fun i : Nat => raceB l g c (i : Int)) (List.range n); simpa using this
set_option maxRecDepth 100000 in
theorem e_race1 (i : Int) (A_l : Option Addr) (c_l : Nat) (l : List Int) (sb : Nat) (h : List (Int × Site)) (bm : Nat) (bk : Nat) (k : Int) (bg : Nat) (g : Int) (A_c : Option Addr) (c_c : Nat) (c : List Int) (bc : Nat) (w : World) (hr_l : RowAt w A_l 1 enU8 l) (hc_l : l.length ≤ c_l) (ho_h_ : (mapR sb (fun a : Int => vI .i64 a) Site.v h).p w) (ho_bm : w.heap[bm]? = some (.cells #[vS A_l l.length c_l, vM (some sb)] 106 (0, 0))) (ho_bk : w.heap[bk]? = some (.cells #[vI .i64 k] 38 (0, 0))) (ho_bg : w.heap[bg]? = some (.cells #[vI .i64 g] 3 (0, 0))) (hr_c : RowAt w A_c 1 enU8 c) (hc_c : c.length ≤ c_c) (ho_bc : w.heap[bc]? = some (.cells #[vS A_c c.length c_c] 81 (0, 0))) (hll : l.length ≤ 100000) (hcc9 : c.length ≤ 100000) (hi : 0 ≤ i ∧ i < (l.length : Int)) : Calls Tryz.prog 76 #[vI .i64 i, pA bm 0, pA bk 0, pA bg 0, pA bc 0] w (fun e w' => e = .returned (vT #[(⟨i, (look h i).getD ⟨0, 0⟩, k⟩ : Acc).v, vB (raceB l g c i)]) ∧ Fr No w w') := by
 have _hu := hc_l; have _hv := hr_l; clear _hu _hv
 have _hu := hc_c; have _hv := hr_c; clear _hu _hv
 have _hu := ho_h_; clear _hu
 have _hu := ho_bm; clear _hu
 have _hu := ho_bk; clear _hu
 have _hu := ho_bg; clear _hu
 have _hu := ho_bc; clear _hu
 have _hu := hll; clear _hu
 have _hu := hcc9; clear _hu
 have _hu := hi; clear _hu
 refine enter_E 29 Tryz.func76 rfl rfl (by kernel_rfl) (L := [(0, vI .i64 i), (1, pA bm 0), (2, pA bk 0), (3, pA bg 0), (4, pA bc 0)]) (by kernel_rfl) ?_
 intro ac hA
 have hW := Ws.start w No
 have hW := hW.arg hr_l
 have hW := hW.arg hr_c
 have hW := hW.mapG ho_h_
 have hW := hW.celG ho_bm
 have hW := hW.celG ho_bk
 have hW := hW.celG ho_bg
 have hW := hW.celG ho_bc
 refine wr <| st_s hA (Runs.cells (fun b => pA b 0) #[vI .i64 0, vI .i64 0, vI .i64 0, vI .i64 0] 52 (fun _ => by kernel_rfl) hW ?_); clear hA ac hW; intro b1 w2 hW hb1 hfw2 ac hA
 refine st_p (vB false) hA ?_; clear hA ac; intro ac hA
 refine wn <| wp_seq ?_
 rcases Bool.eq_false_or_eq_true (decide (i = g)) with h3 | h3
 ·
  have h3 := of_decide_eq_true h3
  refine wp_cut (fun ac_ wl_ => Fm 29 [] [(6, pA b1 0), (7, vB false)] ac_ ∧ Ws w No [Cel b1 #[vI .i64 i, vI .i64 ((look h (i : Int)).getD (⟨0, 0⟩ : Site)).f, vI .i64 ((look h (i : Int)).getD (⟨0, 0⟩ : Site)).pc, vI .i64 k] 52] [Cel bc #[vS A_c c.length c_c] 81, Cel bg #[vI .i64 g] 3, Cel bk #[vI .i64 k] 38, Cel bm #[vS A_l l.length c_l, vM (some sb)] 106, mapR sb (fun a : Int => vI .i64 a) Site.v h, roR A_c 1 enU8 c, roR A_l 1 enU8 l] wl_) ?_ ?_
  · refine sr_region (m := 23) (C := Ws w No [] [Cel bc #[vS A_c c.length c_c] 81, Cel bg #[vI .i64 g] 3, Cel bk #[vI .i64 k] 38, Cel bm #[vS A_l l.length c_l, vM (some sb)] 106, mapR sb (fun a : Int => vI .i64 a) Site.v h, roR A_c 1 enU8 c, roR A_l 1 enU8 l]) (fun i => [2, 4, 5, 8, 12, 15, 16].contains i) (fun i => [2, 4, 5, 8, 12, 15, 16, 18, 21].contains i) (fun i => [0, 1, 3, 6, 7, 9, 10, 11, 13, 14, 17, 19, 20, 22].contains i) (by kernel_rfl) (by kernel_rfl) (by kernel_rfl) (by kernel_rfl) hW ?_; clear hW; intro w4 hW hfw4 hR; have hC : Ws w No [] [Cel bc #[vS A_c c.length c_c] 81, Cel bg #[vI .i64 g] 3, Cel bk #[vI .i64 k] 38, Cel bm #[vS A_l l.length c_l, vM (some sb)] 106, mapR sb (fun a : Int => vI .i64 a) Site.v h, roR A_c 1 enU8 c, roR A_l 1 enU8 l] w4 := hW.pick [] (by decide) rfl
    refine sr_p 0 (vI .i64 i) hR rfl hA fun ac hA => sr_p 1 (pA bm 1) hR rfl hA fun ac hA => sr_t 2 (vM (some sb)) hR rfl hA hC (Rd.load (b := bm) (i := 1) (by kernel_rfl) (fun _ hw => show _ = _ from (hw).getG 3 rfl) (by kernel_rfl)) fun ac hA => sr_p 3 (vI .i64 i) hR rfl hA fun ac hA => sr_t 4 (((look h (i : Int)).getD (⟨0, 0⟩ : Site)).v) hR rfl hA hC ((Rd.lookup (k := 3) (e := 40) (ek := (fun a : Int => vI .i64 a)) (ev := Site.v) (m := h) (z := (⟨0, 0⟩ : Site).v) (i : Int) false (by kernel_rfl) (by kernel_rfl) (KeyE.int (by kernel_rfl)) (by kernel_rfl) (fun _ => by kernel_rfl) (fun _ hw => (hw).getG 4 rfl)).cast (by generalize look h (i : Int) = o_; cases o_ <;> rfl)) fun ac hA => sr_t 5 (vI .i64 k) hR rfl hA hC (Rd.load (b := bk) (i := 0) (by kernel_rfl) (fun _ hw => show _ = _ from (hw).getG 2 rfl) (by kernel_rfl)) fun ac hA => sr_p 6 (vA #[vI .i64 i, vI .i64 ((look h (i : Int)).getD (⟨0, 0⟩ : Site)).f, vI .i64 ((look h (i : Int)).getD (⟨0, 0⟩ : Site)).pc, vI .i64 k]) hR rfl hA fun ac hA => sr_p 7 (vI .i64 i) hR rfl hA fun ac hA => sr_t 8 (vI .i64 g) hR rfl hA hC (Rd.load (b := bg) (i := 0) (by kernel_rfl) (fun _ hw => show _ = _ from (hw).getG 1 rfl) (by kernel_rfl)) fun ac hA => sr_p 9 (vB ((i : Int) != (g : Int))) hR rfl hA fun ac hA => sr_p 10 (vB ((i : Int) != (g : Int))) hR rfl hA fun ac hA => ?_
    rw [show ((i : Int) != (g : Int)) = false from by rw [show i = g from by assumption]; simp] at hA
    refine sr_s 11 hR rfl hA fun ac hA => sr_skip (i := 12) hR (by kernel_rfl) rfl (by kernel_rfl) (by kernel_rfl) (by kernel_rfl) (fun _ _ _ h => h.elim) hA (by kernel_rfl) (by kernel_rfl) hC fun ac hA => sr_s 13 hR rfl hA fun ac hA => sr_s 14 hR rfl hA fun ac hA => sr_skip (i := 15) hR (by kernel_rfl) rfl (by kernel_rfl) (by kernel_rfl) (by kernel_rfl) (fun _ _ _ h => h.elim) hA (by kernel_rfl) (by kernel_rfl) hC fun ac hA => sr_skip (i := 16) hR (by kernel_rfl) rfl (by kernel_rfl) (by kernel_rfl) (by kernel_rfl) (fun _ _ _ h => h.elim) hA (by kernel_rfl) (by kernel_rfl) hC fun ac hA => sr_s 17 hR rfl hA fun ac hA => sr_one (i := 18) (by kernel_rfl) (sr_z rfl hA ?_); clear hA ac; intro ac hA
    refine ⟨⟨fun _ => (hW.pick [] (by decide) rfl).pickG [0, 1, 2, 3, 4, 5, 6] rfl, fun h => absurd h (by decide)⟩, ?_⟩; have hC : Ws w No [] [Cel bc #[vS A_c c.length c_c] 81, Cel bg #[vI .i64 g] 3, Cel bk #[vI .i64 k] 38, Cel bm #[vS A_l l.length c_l, vM (some sb)] 106, mapR sb (fun a : Int => vI .i64 a) Site.v h, roR A_c 1 enU8 c, roR A_l 1 enU8 l] w4 := (hW.pick [] (by decide) rfl).pickG [0, 1, 2, 3, 4, 5, 6] rfl
    refine sr_s 19 hR rfl hA fun ac hA => sr_p 20 (vB false) hR rfl hA fun ac hA => sr_one (i := 21) (by kernel_rfl) (sr_d rfl hA (Runs.store (v := vA #[vI .i64 i, vI .i64 ((look h (i : Int)).getD (⟨0, 0⟩ : Site)).f, vI .i64 ((look h (i : Int)).getD (⟨0, 0⟩ : Site)).pc, vI .i64 k]) (b := b1) (j := 0) (n := 4) (cs' := #[vI .i64 i, vI .i64 ((look h (i : Int)).getD (⟨0, 0⟩ : Site)).f, vI .i64 ((look h (i : Int)).getD (⟨0, 0⟩ : Site)).pc, vI .i64 k]) (H' := [Cel b1 #[vI .i64 i, vI .i64 ((look h (i : Int)).getD (⟨0, 0⟩ : Site)).f, vI .i64 ((look h (i : Int)).getD (⟨0, 0⟩ : Site)).pc, vI .i64 k] 52]) (by kernel_rfl) (by kernel_rfl) (by kernel_rfl) (by kernel_rfl) (by kernel_rfl) hW 0 (by rfl) (Nat.le_of_ble_eq_true (by kernel_rfl)) (by kernel_rfl) (by rfl) ?_)); clear hA ac hW; intro w5 hW ac hA
    refine ⟨⟨fun _ => (hW.pick [] (by decide) rfl).pickG [0, 1, 2, 3, 4, 5, 6] rfl, fun h => absurd h (by decide)⟩, ?_⟩; have hC : Ws w No [] [Cel bc #[vS A_c c.length c_c] 81, Cel bg #[vI .i64 g] 3, Cel bk #[vI .i64 k] 38, Cel bm #[vS A_l l.length c_l, vM (some sb)] 106, mapR sb (fun a : Int => vI .i64 a) Site.v h, roR A_c 1 enU8 c, roR A_l 1 enU8 l] w5 := (hW.pick [] (by decide) rfl).pickG [0, 1, 2, 3, 4, 5, 6] rfl
    refine sr_p 22 (vB false) hR rfl hA ?_; clear hA ac; intro ac hA
    refine sr_done (by kernel_rfl) ?_ _
    exact ⟨hA.sub ⟨⟨by kernel_rfl, by kernel_rfl⟩, ⟨by kernel_rfl, by kernel_rfl⟩, trivial⟩, (hW.pick [0] (by decide) rfl).pickG [0, 1, 2, 3, 4, 5, 6] rfl⟩
  clear hA ac hW; rintro ac w6 ⟨hA, hW⟩
  refine thenN <| wp_ret <| ret2 (v1 := vA #[vI .i64 i, vI .i64 ((look h (i : Int)).getD (⟨0, 0⟩ : Site)).f, vI .i64 ((look h (i : Int)).getD (⟨0, 0⟩ : Site)).pc, vI .i64 k]) (v2 := vB false) (by rfl) hA (Got.cell (b := b1) (i := 0) hA (by kernel_rfl) (by kernel_rfl) (hW.cel 0 rfl) (by kernel_rfl)) (Got.tmp hA (by kernel_rfl) (by kernel_rfl)) ?_
  clear hA
  exact ⟨retv (by rw [show raceB l g c i = false from decide_eq_false (by omega)]; rfl), hW.fr⟩
 have h3 := of_decide_eq_false h3
 obtain ⟨y7, hy7⟩ : ∃ y, l[Int.toNat (i)]? = some y := ⟨_, List.getElem?_eq_getElem (by omega)⟩
 obtain ⟨b8, o9, rfl, hbb8⟩ := row_some ((hW).getG 6 rfl) hy7
 refine wp_cut (fun ac_ wl_ => Fm 29 [] [(6, pA b1 0), (7, vB (decide ((y7 : Int) > (getC c (i) : Int))))] ac_ ∧ Ws w No [Cel b1 #[vI .i64 i, vI .i64 ((look h (i : Int)).getD (⟨0, 0⟩ : Site)).f, vI .i64 ((look h (i : Int)).getD (⟨0, 0⟩ : Site)).pc, vI .i64 k] 52] [Cel bc #[vS A_c c.length c_c] 81, Cel bg #[vI .i64 g] 3, Cel bk #[vI .i64 k] 38, Cel bm #[vS (some ⟨b8, o9, none⟩) l.length c_l, vM (some sb)] 106, mapR sb (fun a : Int => vI .i64 a) Site.v h, roR A_c 1 enU8 c, roR (some ⟨b8, o9, none⟩) 1 enU8 l] wl_) ?_ ?_
 · refine sr_region (m := 23) (C := Ws w No [] [Cel bc #[vS A_c c.length c_c] 81, Cel bg #[vI .i64 g] 3, Cel bk #[vI .i64 k] 38, Cel bm #[vS (some ⟨b8, o9, none⟩) l.length c_l, vM (some sb)] 106, mapR sb (fun a : Int => vI .i64 a) Site.v h, roR A_c 1 enU8 c, roR (some ⟨b8, o9, none⟩) 1 enU8 l]) (fun i => [2, 4, 5, 8, 12, 15, 16].contains i) (fun i => [2, 4, 5, 8, 12, 15, 16, 18, 21].contains i) (fun i => [0, 1, 3, 6, 7, 9, 10, 11, 13, 14, 17, 19, 20, 22].contains i) (by kernel_rfl) (by kernel_rfl) (by kernel_rfl) (by kernel_rfl) hW ?_; clear hW; intro w10 hW hfw10 hR; have hC : Ws w No [] [Cel bc #[vS A_c c.length c_c] 81, Cel bg #[vI .i64 g] 3, Cel bk #[vI .i64 k] 38, Cel bm #[vS (some ⟨b8, o9, none⟩) l.length c_l, vM (some sb)] 106, mapR sb (fun a : Int => vI .i64 a) Site.v h, roR A_c 1 enU8 c, roR (some ⟨b8, o9, none⟩) 1 enU8 l] w10 := hW.pick [] (by decide) rfl
   refine sr_p 0 (vI .i64 i) hR rfl hA fun ac hA => sr_p 1 (pA bm 1) hR rfl hA fun ac hA => sr_t 2 (vM (some sb)) hR rfl hA hC (Rd.load (b := bm) (i := 1) (by kernel_rfl) (fun _ hw => show _ = _ from (hw).getG 3 rfl) (by kernel_rfl)) fun ac hA => sr_p 3 (vI .i64 i) hR rfl hA fun ac hA => sr_t 4 (((look h (i : Int)).getD (⟨0, 0⟩ : Site)).v) hR rfl hA hC ((Rd.lookup (k := 3) (e := 40) (ek := (fun a : Int => vI .i64 a)) (ev := Site.v) (m := h) (z := (⟨0, 0⟩ : Site).v) (i : Int) false (by kernel_rfl) (by kernel_rfl) (KeyE.int (by kernel_rfl)) (by kernel_rfl) (fun _ => by kernel_rfl) (fun _ hw => (hw).getG 4 rfl)).cast (by generalize look h (i : Int) = o_; cases o_ <;> rfl)) fun ac hA => sr_t 5 (vI .i64 k) hR rfl hA hC (Rd.load (b := bk) (i := 0) (by kernel_rfl) (fun _ hw => show _ = _ from (hw).getG 2 rfl) (by kernel_rfl)) fun ac hA => sr_p 6 (vA #[vI .i64 i, vI .i64 ((look h (i : Int)).getD (⟨0, 0⟩ : Site)).f, vI .i64 ((look h (i : Int)).getD (⟨0, 0⟩ : Site)).pc, vI .i64 k]) hR rfl hA fun ac hA => sr_p 7 (vI .i64 i) hR rfl hA fun ac hA => sr_t 8 (vI .i64 g) hR rfl hA hC (Rd.load (b := bg) (i := 0) (by kernel_rfl) (fun _ hw => show _ = _ from (hw).getG 1 rfl) (by kernel_rfl)) fun ac hA => sr_p 9 (vB ((i : Int) != (g : Int))) hR rfl hA fun ac hA => sr_p 10 (vB ((i : Int) != (g : Int))) hR rfl hA fun ac hA => ?_
   rw [show ((i : Int) != (g : Int)) = true from bne_iff_ne.2 (by omega)] at hA
   refine sr_p 11 (pA bm 0) hR rfl hA fun ac hA => sr_t 12 (vS (some ⟨b8, o9, none⟩) l.length c_l) hR rfl hA hC (Rd.load (b := bm) (i := 0) (by kernel_rfl) (fun _ hw => show _ = _ from (hw).getG 3 rfl) (by kernel_rfl)) fun ac hA => sr_p 13 (vI .i64 i) hR rfl hA fun ac hA => sr_q 14 (vP (some ⟨b8, o9 + (Int.toNat (i)) * 1, none⟩)) hR rfl hA (Rd.indexAddrI (e := 29) (sz := 1) (b := b8) (off := o9) (n := l.length) (c := c_l) (k := i) (by kernel_rfl) (by kernel_rfl) (by omega) (by first | omega | (simp; done) | (simp; omega)) (fun _ => by kernel_rfl) (fun _ => by kernel_rfl)) fun ac hA => sr_t 15 (vI .u64 y7) hR rfl hA hC (Rd.loadRow (b := b8) (i := o9 + (Int.toNat (i)) * 1) (xs := [vI .u64 y7]) (by kernel_rfl) (fun _ hw => row_ld ((hw).getG 6 rfl) hy7 (Fr.refl No _) (fun h => h) 0 1 (by kernel_rfl)) (by kernel_rfl)) fun ac hA => sr_t 16 (vS A_c c.length c_c) hR rfl hA hC (Rd.load (b := bc) (i := 0) (by kernel_rfl) (fun _ hw => show _ = _ from (hw).getG 0 rfl) (by kernel_rfl)) fun ac hA => sr_p 17 (vI .i64 i) hR rfl hA fun ac hA => sr_one (i := 18) (by kernel_rfl) (sr_d rfl hA (Runs.callN (v := vI .u64 (getC c (i))) (fun _ => by kernel_rfl) hW (e_vget A_c c_c c (i) w10 ((hW).getG 5 rfl) (by first | assumption | omega | (simp; omega) | simp) (by first | omega | assumption)) ?_)); clear hA ac hW; intro w11 hW hfw11 ac hA
   refine ⟨⟨fun _ => (hW.pick [] (by decide) rfl).pickG [0, 1, 2, 3, 4, 5, 6] rfl, fun h => absurd h (by decide)⟩, ?_⟩; have hC : Ws w No [] [Cel bc #[vS A_c c.length c_c] 81, Cel bg #[vI .i64 g] 3, Cel bk #[vI .i64 k] 38, Cel bm #[vS (some ⟨b8, o9, none⟩) l.length c_l, vM (some sb)] 106, mapR sb (fun a : Int => vI .i64 a) Site.v h, roR A_c 1 enU8 c, roR (some ⟨b8, o9, none⟩) 1 enU8 l] w11 := (hW.pick [] (by decide) rfl).pickG [0, 1, 2, 3, 4, 5, 6] rfl
   refine sr_p 19 (vB (decide ((y7 : Int) > (getC c (i) : Int)))) hR rfl hA fun ac hA => sr_p 20 (vB (decide ((y7 : Int) > (getC c (i) : Int)))) hR rfl hA fun ac hA => sr_one (i := 21) (by kernel_rfl) (sr_d rfl hA (Runs.store (v := vA #[vI .i64 i, vI .i64 ((look h (i : Int)).getD (⟨0, 0⟩ : Site)).f, vI .i64 ((look h (i : Int)).getD (⟨0, 0⟩ : Site)).pc, vI .i64 k]) (b := b1) (j := 0) (n := 4) (cs' := #[vI .i64 i, vI .i64 ((look h (i : Int)).getD (⟨0, 0⟩ : Site)).f, vI .i64 ((look h (i : Int)).getD (⟨0, 0⟩ : Site)).pc, vI .i64 k]) (H' := [Cel b1 #[vI .i64 i, vI .i64 ((look h (i : Int)).getD (⟨0, 0⟩ : Site)).f, vI .i64 ((look h (i : Int)).getD (⟨0, 0⟩ : Site)).pc, vI .i64 k] 52]) (by kernel_rfl) (by kernel_rfl) (by kernel_rfl) (by kernel_rfl) (by kernel_rfl) hW 0 (by rfl) (Nat.le_of_ble_eq_true (by kernel_rfl)) (by kernel_rfl) (by rfl) ?_)); clear hA ac hW; intro w12 hW ac hA
   refine ⟨⟨fun _ => (hW.pick [] (by decide) rfl).pickG [0, 1, 2, 3, 4, 5, 6] rfl, fun h => absurd h (by decide)⟩, ?_⟩; have hC : Ws w No [] [Cel bc #[vS A_c c.length c_c] 81, Cel bg #[vI .i64 g] 3, Cel bk #[vI .i64 k] 38, Cel bm #[vS (some ⟨b8, o9, none⟩) l.length c_l, vM (some sb)] 106, mapR sb (fun a : Int => vI .i64 a) Site.v h, roR A_c 1 enU8 c, roR (some ⟨b8, o9, none⟩) 1 enU8 l] w12 := (hW.pick [] (by decide) rfl).pickG [0, 1, 2, 3, 4, 5, 6] rfl
   refine sr_p 22 (vB (decide ((y7 : Int) > (getC c (i) : Int)))) hR rfl hA ?_; clear hA ac; intro ac hA
   refine sr_done (by kernel_rfl) ?_ _
   exact ⟨hA.sub ⟨⟨by kernel_rfl, by kernel_rfl⟩, ⟨by kernel_rfl, by kernel_rfl⟩, trivial⟩, (hW.pick [0] (by decide) rfl).pickG [0, 1, 2, 3, 4, 5, 6] rfl⟩
 clear hA ac hW; rintro ac w13 ⟨hA, hW⟩
 refine thenN <| wp_ret <| ret2 (v1 := vA #[vI .i64 i, vI .i64 ((look h (i : Int)).getD (⟨0, 0⟩ : Site)).f, vI .i64 ((look h (i : Int)).getD (⟨0, 0⟩ : Site)).pc, vI .i64 k]) (v2 := vB (decide ((y7 : Int) > (getC c (i) : Int)))) (by rfl) hA (Got.cell (b := b1) (i := 0) hA (by kernel_rfl) (by kernel_rfl) (hW.cel 0 rfl) (by kernel_rfl)) (Got.tmp hA (by kernel_rfl) (by kernel_rfl)) ?_
 clear hA
 have hy_ := getC_at2 (c := l) (i := i) (by omega) hy7; exact ⟨retv (by rw [show raceB l g c i = decide ((y7 : Int) > (getC c (i) : Int)) from by unfold raceB; rw [decide_eq_decide]; omega]; rfl), hW.fr⟩

set_option maxRecDepth 100000 in
theorem e_gathA (n : Int) (A_l : Option Addr) (c_l : Nat) (l : List Int) (sb : Nat) (h : List (Int × Site)) (bm : Nat) (bk : Nat) (k : Int) (bg : Nat) (g : Int) (A_c : Option Addr) (c_c : Nat) (c : List Int) (bc : Nat) (w : World) (hr_l : RowAt w A_l 1 enU8 l) (hc_l : l.length ≤ c_l) (ho_h_ : (mapR sb (fun a : Int => vI .i64 a) Site.v h).p w) (ho_bm : w.heap[bm]? = some (.cells #[vS A_l l.length c_l, vM (some sb)] 106 (0, 0))) (ho_bk : w.heap[bk]? = some (.cells #[vI .i64 k] 38 (0, 0))) (ho_bg : w.heap[bg]? = some (.cells #[vI .i64 g] 3 (0, 0))) (hr_c : RowAt w A_c 1 enU8 c) (hc_c : c.length ≤ c_c) (ho_bc : w.heap[bc]? = some (.cells #[vS A_c c.length c_c] 81 (0, 0))) (hll : l.length ≤ 100000) (hcc9 : c.length ≤ 100000) (hn : n = (l.length : Int)) : Calls Tryz.prog 75 #[vI .i64 n, vF (.func 76) #[] #[pA bm 0, pA bk 0, pA bg 0, pA bc 0]] w (Fresh 52 4 enAcc (racesL l h g c k) w) := by
 have _hu := hc_l; have _hv := hr_l; clear _hu _hv
 have _hu := hc_c; have _hv := hr_c; clear _hu _hv
 have _hu := ho_h_; clear _hu
 have _hu := ho_bm; clear _hu
 have _hu := ho_bk; clear _hu
 have _hu := ho_bg; clear _hu
 have _hu := ho_bc; clear _hu
 have _hu := hll; clear _hu
 have _hu := hcc9; clear _hu
 have _hu := hn; clear _hu
 refine enter_E 25 Tryz.func75 rfl rfl (by kernel_rfl) (L := [(0, vI .i64 n), (1, vF (.func 76) #[] #[pA bm 0, pA bk 0, pA bg 0, pA bc 0])]) (by kernel_rfl) ?_
 intro ac hA
 have hW := Ws.start w No
 have hW := hW.arg hr_l
 have hW := hW.arg hr_c
 have hW := hW.mapG ho_h_
 have hW := hW.celG ho_bm
 have hW := hW.celG ho_bk
 have hW := hW.celG ho_bg
 have hW := hW.celG ho_bc
 refine wr <| st_p (vS none 0 0) hA ?_; clear hA ac; intro ac hA
 refine wn <| wp_seq <| wr <| st_p (vI .i64 n) hA fun ac hA => st_p (vI .i64 0) hA fun ac hA => wn <| wp_block ?_
 have hW := hW.addNil 52 4 enAcc
 refine wp_loop_m (fun m_ ac_ wl_ => ∃ q : Nat, ∃ d : List Acc, ∃ A : Option Addr, ∃ cc : Nat, m_ = l.length - q ∧ (q ≤ l.length) ∧ (d = racesP l h g c k q) ∧ (d.length ≤ cc) ∧ Fm 25 [] [(0, vI .i64 n), (1, vF (.func 76) #[] #[pA bm 0, pA bk 0, pA bg 0, pA bc 0]), (4, vS A d.length cc), (8, vI .i64 n), (9, vI .i64 (q : Int))] ac_ ∧ Ws w No [rowR 52 4 enAcc (vS A d.length cc) d] [Cel bc #[vS A_c c.length c_c] 81, Cel bg #[vI .i64 g] 3, Cel bk #[vI .i64 k] 38, Cel bm #[vS A_l l.length c_l, vM (some sb)] 106, mapR sb (fun a : Int => vI .i64 a) Site.v h, roR A_c 1 enU8 c, roR A_l 1 enU8 l] wl_) _ ⟨0, [], none, 0, rfl, by omega, by rfl, by simp, hA.sub (by and_intros <;> first | kernel_rfl | trivial), (hW.pick [0] (by decide) rfl).pickG [0, 1, 2, 3, 4, 5, 6] rfl⟩ ?_
 clear hA ac hW; rintro m_ ac w1 ⟨q, d, A, cc, rfl, hq, hd, hcc, hA, hW⟩
 have hdl_ := races_len l h g c k q; rw [← hd] at hdl_
 refine wr <| st_p (vB (decide ((q : Int) < (n : Int)))) hA ?_; clear hA ac; intro ac hA
 refine wn <| wp_seq <| wp_cond_split (t := decide ((q : Int) < (n : Int))) (hA.eval (by kernel_rfl)) (fun h2 => ?_) (fun h2 => ?_)
 ·
  have h2 := of_decide_eq_true h2
  refine wp_skip <| thenN <| wp_seq <| wp_block <| wr <| st_p (vI .i64 (q : Int)) hA fun ac hA => st_p (vI .i64 (q : Int)) hA fun ac hA => wn <| wr <| st_p (vF (.func 76) #[] #[pA bm 0, pA bk 0, pA bg 0, pA bc 0]) hA fun ac hA => st_p (vI .i64 (q : Int)) hA fun ac hA => st_s hA (Runs.callN (v := vT #[(⟨(q : Int), (look h (q : Int)).getD ⟨0, 0⟩, (k : Int)⟩ : Acc).v, vB (raceB l (g : Int) c (q : Int))]) (fun _ => by kernel_rfl) hW (e_race1 (q : Int) A_l c_l l sb h bm bk (k : Int) bg (g : Int) A_c c_c c bc w1 ((hW).getG 6 rfl) (by first | assumption | omega | (simp; omega) | simp) ((hW).getG 4 rfl) (show _ = _ from (hW).getG 3 rfl) (show _ = _ from (hW).getG 2 rfl) (show _ = _ from (hW).getG 1 rfl) ((hW).getG 5 rfl) (by first | assumption | omega | (simp; omega) | simp) (show _ = _ from (hW).getG 0 rfl) (by first | omega | assumption | exact ⟨by omega, by omega⟩) (by first | omega | assumption | exact ⟨by omega, by omega⟩) (by first | omega | assumption | exact ⟨by omega, by omega⟩)) ?_); clear hA ac hW; intro w3 hW hfw3 ac hA
  refine st_p (vT #[(⟨(q : Int), (look h (q : Int)).getD ⟨0, 0⟩, (k : Int)⟩ : Acc).v, vB (raceB l (g : Int) c (q : Int))]) hA fun ac hA => st_p ((⟨(q : Int), (look h (q : Int)).getD ⟨0, 0⟩, (k : Int)⟩ : Acc).v) hA fun ac hA => st_p (vB (raceB l (g : Int) c (q : Int))) hA fun ac hA => st_s hA (Runs.cells (fun b => pA b 0) #[vI .i64 0, vI .i64 0, vI .i64 0, vI .i64 0] 52 (fun _ => by kernel_rfl) hW ?_); clear hA ac hW; intro b4 w5 hW hb4 hfw5 ac hA
  refine st_s hA (Runs.store (v := (⟨(q : Int), (look h (q : Int)).getD ⟨0, 0⟩, (k : Int)⟩ : Acc).v) (b := b4) (j := 0) (n := 4) (cs' := #[vI .i64 (⟨(q : Int), (look h (q : Int)).getD ⟨0, 0⟩, (k : Int)⟩ : Acc).g, vI .i64 (⟨(q : Int), (look h (q : Int)).getD ⟨0, 0⟩, (k : Int)⟩ : Acc).s.f, vI .i64 (⟨(q : Int), (look h (q : Int)).getD ⟨0, 0⟩, (k : Int)⟩ : Acc).s.pc, vI .i64 (⟨(q : Int), (look h (q : Int)).getD ⟨0, 0⟩, (k : Int)⟩ : Acc).k]) (H' := [Cel b4 #[vI .i64 (⟨(q : Int), (look h (q : Int)).getD ⟨0, 0⟩, (k : Int)⟩ : Acc).g, vI .i64 (⟨(q : Int), (look h (q : Int)).getD ⟨0, 0⟩, (k : Int)⟩ : Acc).s.f, vI .i64 (⟨(q : Int), (look h (q : Int)).getD ⟨0, 0⟩, (k : Int)⟩ : Acc).s.pc, vI .i64 (⟨(q : Int), (look h (q : Int)).getD ⟨0, 0⟩, (k : Int)⟩ : Acc).k] 52, rowR 52 4 enAcc (vS A d.length cc) d]) (by kernel_rfl) (by kernel_rfl) (by kernel_rfl) (by kernel_rfl) (by kernel_rfl) hW 0 (by rfl) (Nat.le_of_ble_eq_true (by kernel_rfl)) (by kernel_rfl) (by rfl) ?_); clear hA ac hW; intro w6 hW ac hA
  refine st_p (vB (raceB l (g : Int) c (q : Int))) hA ?_; clear hA ac; intro ac hA
  refine wn <| wr <| st_p (vB (raceB l (g : Int) c (q : Int))) hA ?_; clear hA ac; intro ac hA
  refine wn <| wp_cond_split (t := raceB l (g : Int) c (q : Int)) (hA.eval (by kernel_rfl)) (fun h7 => ?_) (fun h7 => ?_)
  ·
   refine wp_region_lit <| st_p (vS A d.length cc) hA fun ac hA => st_q (vA #[vI .i64 (⟨(q : Int), (look h (q : Int)).getD ⟨0, 0⟩, (k : Int)⟩ : Acc).g, vI .i64 (⟨(q : Int), (look h (q : Int)).getD ⟨0, 0⟩, (k : Int)⟩ : Acc).s.f, vI .i64 (⟨(q : Int), (look h (q : Int)).getD ⟨0, 0⟩, (k : Int)⟩ : Acc).s.pc, vI .i64 (⟨(q : Int), (look h (q : Int)).getD ⟨0, 0⟩, (k : Int)⟩ : Acc).k]) hA hW.cls (rl b4 0 0) fun ac hA => st_s hA (Runs.cells (fun b => vS (some ⟨b, 0, none⟩) 1 1) #[vI .i64 (⟨(q : Int), (look h (q : Int)).getD ⟨0, 0⟩, (k : Int)⟩ : Acc).g, vI .i64 (⟨(q : Int), (look h (q : Int)).getD ⟨0, 0⟩, (k : Int)⟩ : Acc).s.f, vI .i64 (⟨(q : Int), (look h (q : Int)).getD ⟨0, 0⟩, (k : Int)⟩ : Acc).s.pc, vI .i64 (⟨(q : Int), (look h (q : Int)).getD ⟨0, 0⟩, (k : Int)⟩ : Acc).k] 52 (fun _ => by kernel_rfl) hW ?_); clear hA ac hW; intro b8 w9 hW hb8 hfw9 ac hA
   refine st_s hA (Runs.appOwn (B := (some ⟨b8, 0, none⟩)) (k := 1) (E := 52) (sz := 4) (en := enAcc) (l := d) (m := ([(⟨(q : Int), (look h (q : Int)).getD ⟨0, 0⟩, (k : Int)⟩ : Acc)] : List Acc)) (i := 2) (by kernel_rfl) (by kernel_rfl) elt_Acc (by kernel_rfl) hW rfl (rowAt_cel ((hW).cel 0 rfl) ([(⟨(q : Int), (look h (q : Int)).getD ⟨0, 0⟩, (k : Int)⟩ : Acc)] : List Acc) (by rfl) elt_Acc.len) (by first | omega | (simp; done) | (simp; omega)) (by first | omega | (simp; done) | (simp; omega)) ?_); clear hA ac hW; intro A10 c11 w12 hW hcc11 ac hA
   refine st_p (vS A10 (d ++ ([(⟨(q : Int), (look h (q : Int)).getD ⟨0, 0⟩, (k : Int)⟩ : Acc)] : List Acc)).length c11) hA ?_; clear hA ac; intro ac hA
   refine wpList_nil <| blkN <| thenN <| wp_region_lit <| st_q (vI .i64 ((q + 1 : Nat) : Int)) hA hW.cls (Rd.pureE (v0 := vI .i64 (IntKind.i64.wrap ((q : Int) + 1))) (fun _ => by kernel_rfl) (congrArg (vI .i64) ((w_i64 (x := (q : Int) + 1) (by omega) (by omega)).trans (by omega)))) fun ac hA => st_p (vI .i64 ((q + 1 : Nat) : Int)) hA fun ac hA => wn ?_
   exact ⟨l.length - (q + 1), by omega, q + 1, d ++ ([(⟨(q : Int), (look h (q : Int)).getD ⟨0, 0⟩, (k : Int)⟩ : Acc)] : List Acc), A10, c11, rfl, by omega, by rw [races_snoc, if_pos h7, hd], by exact hcc11, hA.sub (by and_intros <;> first | kernel_rfl | trivial), (hW.pick [2] (by decide) rfl).pickG [0, 1, 2, 3, 4, 5, 6] rfl⟩
  refine wp_skip <| blkN <| thenN <| wp_region_lit <| st_q (vI .i64 ((q + 1 : Nat) : Int)) hA hW.cls (Rd.pureE (v0 := vI .i64 (IntKind.i64.wrap ((q : Int) + 1))) (fun _ => by kernel_rfl) (congrArg (vI .i64) ((w_i64 (x := (q : Int) + 1) (by omega) (by omega)).trans (by omega)))) fun ac hA => st_p (vI .i64 ((q + 1 : Nat) : Int)) hA fun ac hA => wn ?_
  exact ⟨l.length - (q + 1), by omega, q + 1, d, A, cc, rfl, by omega, by rw [races_snoc, if_neg (by rw [h7]; decide), hd, List.append_nil], by exact hcc, hA.sub (by and_intros <;> first | kernel_rfl | trivial), (hW.pick [1] (by decide) rfl).pickG [0, 1, 2, 3, 4, 5, 6] rfl⟩
 have h2 := of_decide_eq_false h2
 refine wp_exit <| thenX <| thenX <| blkX <| thenN <| wr <| st_p (vS A d.length cc) hA fun ac hA => st_p (vS A d.length cc) hA fun ac hA => wn <| wp_ret <| r1 (vS A d.length cc) hA ?_
 clear hA
 have hq_ : racesL l h g c k = d := by rw [hd, show q = l.length from by omega]; rfl
 rw [hq_]; exact ⟨_, rfl, hW.fresh 0 rfl (fun _ h => h), hW.fr⟩

set_option maxRecDepth 100000 in
theorem e_mraces (A_l : Option Addr) (c_l : Nat) (l : List Int) (sb : Nat) (h : List (Int × Site)) (g : Int) (A_c : Option Addr) (c_c : Nat) (c : List Int) (k : Int) (w : World) (hr_l : RowAt w A_l 1 enU8 l) (hc_l : l.length ≤ c_l) (ho_h_ : (mapR sb (fun a : Int => vI .i64 a) Site.v h).p w) (hr_c : RowAt w A_c 1 enU8 c) (hc_c : c.length ≤ c_c) (hll : l.length ≤ 100000) (hcc9 : c.length ≤ 100000) : Calls Tryz.prog 37 #[vA #[vS A_l l.length c_l, vM (some sb)], vI .i64 g, vS A_c c.length c_c, vI .i64 k] w (Fresh 52 4 enAcc (racesL l h g c k) w) := by
 have _hu := hc_l; have _hv := hr_l; clear _hu _hv
 have _hu := hc_c; have _hv := hr_c; clear _hu _hv
 have _hu := ho_h_; clear _hu
 have _hu := hll; clear _hu
 have _hu := hcc9; clear _hu
 refine enter_E 14 Tryz.func37 rfl rfl (by kernel_rfl) (L := [(0, vA #[vS A_l l.length c_l, vM (some sb)]), (1, vI .i64 g), (2, vS A_c c.length c_c), (3, vI .i64 k)]) (by kernel_rfl) ?_
 intro ac hA
 have hW := Ws.start w No
 have hW := hW.arg hr_l
 have hW := hW.arg hr_c
 have hW := hW.mapG ho_h_
 refine wr <| st_s hA (Runs.cells (fun b => pA b 0) #[vS A_l l.length c_l, vM (some sb)] 106 (fun _ => by kernel_rfl) hW ?_); clear hA ac hW; intro b1 w2 hW hb1 hfw2 ac hA
 refine st_s hA (Runs.cells (fun b => pA b 0) #[vI .i64 g] 3 (fun _ => by kernel_rfl) hW ?_); clear hA ac hW; intro b3 w4 hW hb3 hfw4 ac hA
 refine st_s hA (Runs.cells (fun b => pA b 0) #[vS A_c c.length c_c] 81 (fun _ => by kernel_rfl) hW ?_); clear hA ac hW; intro b5 w6 hW hb5 hfw6 ac hA
 refine st_s hA (Runs.cells (fun b => pA b 0) #[vI .i64 k] 38 (fun _ => by kernel_rfl) hW ?_); clear hA ac hW; intro b7 w8 hW hb7 hfw8 ac hA
 refine st_p (vS none 0 0) hA ?_; clear hA ac; intro ac hA
 refine wn <| wr <| st_p (pA b1 0) hA fun ac hA => st_q (vS A_l l.length c_l) hA hW.cls (rl b1 0 3) fun ac hA => st_p (vI .i64 (l.length : Int)) hA fun ac hA => st_p (vF (.func 76) #[] #[pA b1 0, pA b7 0, pA b3 0, pA b5 0]) hA fun ac hA => st_s hA (Runs.callRow (E := 52) (sz := 4) (en := enAcc) (l := (racesL l h (g : Int) c (k : Int))) (fun _ => by kernel_rfl) hW (e_gathA (l.length : Int) A_l c_l l sb h b1 b7 (k : Int) b3 (g : Int) A_c c_c c b5 w8 ((hW).getG 2 rfl) (by first | assumption | omega | (simp; omega) | simp) ((hW).getG 0 rfl) ((hW).cel 3 rfl) ((hW).cel 0 rfl) ((hW).cel 2 rfl) ((hW).getG 1 rfl) (by first | assumption | omega | (simp; omega) | simp) ((hW).cel 1 rfl) (by first | omega | assumption | rfl) (by first | omega | assumption | rfl) (by first | omega | assumption | rfl)) ?_); clear hA ac hW; intro A10 c11 w9 hW hcc11 hfw9 ac hA
 refine st_p (vS A10 (racesL l h (g : Int) c (k : Int)).length c11) hA ?_; clear hA ac; intro ac hA
 refine wn <| wp_ret <| r1 (vS A10 (racesL l h (g : Int) c (k : Int)).length c11) hA ?_
 clear hA
 refine ⟨_, rfl, ?_, hW.fr⟩
 have hrow := hW.fresh 0 rfl (fun _ h => h)
 exact hrow

set_option maxRecDepth 100000 in
theorem e_gath0 (bm : Nat) (bk : Nat) (k : Int) (bg : Nat) (g : Int) (A_c : Option Addr) (c_c : Nat) (c : List Int) (bc : Nat) (w : World) (ho_bm : w.heap[bm]? = some (.cells #[vS none 0 0, vM none] 106 (0, 0))) (ho_bk : w.heap[bk]? = some (.cells #[vI .i64 k] 38 (0, 0))) (ho_bg : w.heap[bg]? = some (.cells #[vI .i64 g] 3 (0, 0))) (hr_c : RowAt w A_c 1 enU8 c) (hc_c : c.length ≤ c_c) (ho_bc : w.heap[bc]? = some (.cells #[vS A_c c.length c_c] 81 (0, 0))) : Calls Tryz.prog 75 #[vI .i64 0, vF (.func 76) #[] #[pA bm 0, pA bk 0, pA bg 0, pA bc 0]] w (Fresh 52 4 enAcc ([] : List Acc) w) := by
 have _hu := hc_c; have _hv := hr_c; clear _hu _hv
 have _hu := ho_bm; clear _hu
 have _hu := ho_bk; clear _hu
 have _hu := ho_bg; clear _hu
 have _hu := ho_bc; clear _hu
 refine enter_E 25 Tryz.func75 rfl rfl (by kernel_rfl) (L := [(0, vI .i64 0), (1, vF (.func 76) #[] #[pA bm 0, pA bk 0, pA bg 0, pA bc 0])]) (by kernel_rfl) ?_
 intro ac hA
 have hW := Ws.start w No
 have hW := hW.arg hr_c
 have hW := hW.celG ho_bm
 have hW := hW.celG ho_bk
 have hW := hW.celG ho_bg
 have hW := hW.celG ho_bc
 refine wr <| st_p (vS none 0 0) hA ?_; clear hA ac; intro ac hA
 refine wn <| wp_seq <| wr <| st_p (vI .i64 0) hA fun ac hA => st_p (vI .i64 0) hA fun ac hA => wn <| wp_block <| wp_loop_rounds 1 ?_
 rw [rounds_succ]
 refine wr <| st_p (vB false) hA ?_; clear hA ac; intro ac hA
 refine wn <| wp_seq <| wp_cond_false (hA.eval (by kernel_rfl)) <| wp_exit <| thenX <| thenX <| blkX <| thenN <| wr <| st_p (vS none 0 0) hA fun ac hA => st_p (vS none 0 0) hA fun ac hA => wn <| wp_ret <| r1 (vS none 0 0) hA ?_
 clear hA
 have hW := hW.addNil 52 4 enAcc
 refine ⟨_, rfl, ?_, hW.fr⟩
 have hrow := hW.fresh 0 rfl (fun _ h => h)
 exact hrow

set_option maxRecDepth 100000 in
theorem e_mraces0 (g : Int) (A_c : Option Addr) (c_c : Nat) (c : List Int) (k : Int) (w : World) (hr_c : RowAt w A_c 1 enU8 c) (hc_c : c.length ≤ c_c) : Calls Tryz.prog 37 #[vA #[vS none 0 0, vM none], vI .i64 g, vS A_c c.length c_c, vI .i64 k] w (Fresh 52 4 enAcc ([] : List Acc) w) := by
 have _hu := hc_c; have _hv := hr_c; clear _hu _hv
 refine enter_E 14 Tryz.func37 rfl rfl (by kernel_rfl) (L := [(0, vA #[vS none 0 0, vM none]), (1, vI .i64 g), (2, vS A_c c.length c_c), (3, vI .i64 k)]) (by kernel_rfl) ?_
 intro ac hA
 have hW := Ws.start w No
 have hW := hW.arg hr_c
 refine wr <| st_s hA (Runs.cells (fun b => pA b 0) #[vS none 0 0, vM none] 106 (fun _ => by kernel_rfl) hW ?_); clear hA ac hW; intro b1 w2 hW hb1 hfw2 ac hA
 refine st_s hA (Runs.cells (fun b => pA b 0) #[vI .i64 g] 3 (fun _ => by kernel_rfl) hW ?_); clear hA ac hW; intro b3 w4 hW hb3 hfw4 ac hA
 refine st_s hA (Runs.cells (fun b => pA b 0) #[vS A_c c.length c_c] 81 (fun _ => by kernel_rfl) hW ?_); clear hA ac hW; intro b5 w6 hW hb5 hfw6 ac hA
 refine st_s hA (Runs.cells (fun b => pA b 0) #[vI .i64 k] 38 (fun _ => by kernel_rfl) hW ?_); clear hA ac hW; intro b7 w8 hW hb7 hfw8 ac hA
 refine st_p (vS none 0 0) hA ?_; clear hA ac; intro ac hA
 refine wn <| wr <| st_p (pA b1 0) hA fun ac hA => st_q (vS none 0 0) hA hW.cls (rl b1 0 3) fun ac hA => st_p (vI .i64 0) hA fun ac hA => st_p (vF (.func 76) #[] #[pA b1 0, pA b7 0, pA b3 0, pA b5 0]) hA fun ac hA => st_s hA (Runs.callRow (E := 52) (sz := 4) (en := enAcc) (l := ([] : List Acc)) (fun _ => by kernel_rfl) hW (e_gath0 b1 b7 (k : Int) b3 (g : Int) A_c c_c c b5 w8 ((hW).cel 3 rfl) ((hW).cel 0 rfl) ((hW).cel 2 rfl) ((hW).getG 0 rfl) (by first | assumption | omega | (simp; omega) | simp) ((hW).cel 1 rfl)) ?_); clear hA ac hW; intro A10 c11 w9 hW hcc11 hfw9 ac hA
 refine st_p (vS A10 ([] : List Acc).length c11) hA ?_; clear hA ac; intro ac hA
 refine wn <| wp_ret <| r1 (vS A10 ([] : List Acc).length c11) hA ?_
 clear hA
 refine ⟨_, rfl, ?_, hW.fr⟩
 have hrow := hW.fresh 0 rfl (fun _ h => h)
 exact hrow

end Go.Proofs.YtoakhhilmnfpkaaGreatDoor.L
