/- Contracts, walked by program over the engine's laws. -/
import Derived.Test.YtjegpelofdopmaaGreatDoorProg
import Derived.Test.YtjegpelofdopmaaGreatDoorT24
import Derived.Test.YtjegpelofdopmaaGreatDoorClone24
namespace Go.Proofs.YtjegpelofdopmaaGreatDoor.L
open Go.RowKit
open Go.Value renaming int → vI, slice → vS, bool → vB, pointer → vP, func → vF, agg → vA, map → vM, tuple → vT

def enEpo (x : Int) : List Value := [.int .u64 x]
theorem elt_Epo : Elt Tryz.prog 43 1 enEpo := ⟨⟨vI .u64 0, 8, by kernel_rfl, rfl, by decide⟩, by decide, fun _ => rfl, fun x u hu => List.all_eq_true.1 (show (enEpo x).all (·.oneCell') = true from rfl) u hu⟩
theorem come_no0 {en : Int} {s s' : KSt} {a er : Int} {x : Event} (h : (s', a, er) = comeK en s x) (her : er ≠ 0) : s' = s := by
  unfold comeK at h; split at h
  · rename_i q; exact absurd (congrArg (fun z => z.2.2) h) her
  · exact congrArg Prod.fst h
theorem come_is0 {en : Int} {s s' : KSt} {a er : Int} {x : Event} (h : (s', a, er) = comeK en s x) (her : er = 0) : comeErr en s x = 0 ∧ s' = comeS s x ∧ a = comeAt s x := by
  unfold comeK at h; split at h
  · rename_i q; exact ⟨q, congrArg Prod.fst h, congrArg (fun z => z.2.1) h⟩
  · rename_i q; exact absurd ((congrArg (fun z => z.2.2) h).symm.trans her) q
/-- What they know is what comes of some events. -/
def Reach (en : Int) (s : KSt) : Prop := ∃ E, Came en E ∧ s = stK E
theorem Reach.start {en : Int} : Reach en kst0 := ⟨[], .nil, rfl⟩
theorem Reach.own {en : Int} {s : KSt} (h : Reach en s) {x : Event} (hb : s.g x.g ≠ none) : getC (kacc s x) x.g = getC (gv s x.g) x.g := by
  obtain ⟨E, hE, rfl⟩ := h; exact (hE.inv.own hb).1.trans (hE.inv.own hb).2.symm
theorem Reach.come {en : Int} {s s' : KSt} {a er : Int} {x : Event} (h : Reach en s) (hc : (s', a, er) = comeK en s x) : Reach en s' := by
  by_cases q : er = 0
  · obtain ⟨h1, h2, -⟩ := come_is0 hc q
    obtain ⟨E, hE, rfl⟩ := h
    exact ⟨E ++ [x], hE.snoc h1, by rw [h2, stK_snoc]⟩
  · rw [come_no0 hc q]; exact h
/-- Events come until one is refused. -/
def allK (en : Int) (s : KSt) : List Event → KSt × List Int × Int
  | [] => (s, [], 0)
  | x :: l => if (comeK en s x).2.2 = 0 then ((allK en (comeK en s x).1 l).1, (comeK en s x).2.1 :: (allK en (comeK en s x).1 l).2.1, (allK en (comeK en s x).1 l).2.2) else ((comeK en s x).1, [], (comeK en s x).2.2)
theorem allK_cons {en : Int} {s : KSt} {x : Event} {l : List Event} : allK en s (x :: l) = if (comeK en s x).2.2 = 0 then ((allK en (comeK en s x).1 l).1, (comeK en s x).2.1 :: (allK en (comeK en s x).1 l).2.1, (allK en (comeK en s x).1 l).2.2) else ((comeK en s x).1, [], (comeK en s x).2.2) := by rw [allK]
theorem allK_app {en : Int} : ∀ (a : List Event) (s : KSt) {t : KSt} {P : List Int} (b : List Event), allK en s a = (t, P, 0) → allK en s (a ++ b) = ((allK en t b).1, P ++ (allK en t b).2.1, (allK en t b).2.2)
  | [], s, t, P, b, h => by
    obtain ⟨rfl, rfl, -⟩ : s = t ∧ [] = P ∧ True := by simp only [allK, Prod.mk.injEq] at h; exact ⟨h.1, h.2.1, trivial⟩
    rfl
  | x :: a, s, t, P, b, h => by
    rw [List.cons_append, allK_cons]
    rw [allK_cons] at h
    by_cases q : (comeK en s x).2.2 = 0
    · rw [if_pos q] at h ⊢
      have h1 := congrArg Prod.fst h
      have h2 := congrArg (fun z => z.2.1) h
      have h3 := congrArg (fun z => z.2.2) h
      simp only at h1 h2 h3
      have ih := allK_app a (comeK en s x).1 (t := t) (P := (allK en (comeK en s x).1 a).2.1) b (Prod.ext h1 (Prod.ext rfl h3))
      rw [ih, ← h2]; rfl
    · rw [if_neg q] at h
      exact absurd (congrArg (fun z => z.2.2) h) q
theorem allK_one {en : Int} {s s' : KSt} {a er : Int} {x : Event} (h : (s', a, er) = comeK en s x) (l : List Event) : allK en s (x :: l) = if er = 0 then ((allK en s' l).1, a :: (allK en s' l).2.1, (allK en s' l).2.2) else (s', [], er) := by
  rw [allK_cons, ← h]
theorem allK_go {en : Int} {s0 s s' : KSt} {P : List Int} {a er : Int} {x : Event} {l : List Event} {k : Nat} (h : allK en s0 (l.take k) = (s, P, 0)) (hx : l[k]? = some x) (hc : (s', a, er) = comeK en s x) (he : er = 0) : allK en s0 (l.take (k + 1)) = (s', P ++ [a], 0) := by
  rw [tk_snoc hx, allK_app _ _ _ h, allK_one hc, if_pos he]; rfl
theorem allK_stop {en : Int} {s0 s s' : KSt} {P : List Int} {a er : Int} {x : Event} {l : List Event} {k : Nat} (h : allK en s0 (l.take k) = (s, P, 0)) (hx : l[k]? = some x) (hc : (s', a, er) = comeK en s x) (he : er ≠ 0) : allK en s0 l = (s', P, er) := by
  have e : l = l.take k ++ x :: l.drop (k + 1) := by
    obtain ⟨hk, rfl⟩ := List.getElem?_eq_some_iff.1 hx
    rw [← List.drop_eq_getElem_cons hk, List.take_append_drop]
  rw [e, allK_app _ _ _ h, allK_one hc, if_neg he]; simp
set_option maxRecDepth 100000 in
theorem e_kall (m : Nat) (bg : Nat) (G : List (Int × SV)) (bt : Nat) (T : List (Thing × SV)) (en : Int) (ks : KSt) (nn : Nat) (A_l : Option Addr) (c_l : Nat) (l : List Event) (w : World) (ho_c : (ClkS m bg G bt T en ks nn).p w) (hl_c : ∀ x_ ∈ (ClkS m bg G bt T en ks nn).fp, x_ < w.heap.size) (hn_v : (nestR innerSV (NV [] G T)).p w) (he_v : ∀ x_ ∈ (ClkS m bg G bt T en ks nn).fp, x_ ∉ (nestR innerSV (NV [] G T)).fp) (hr_l : RowAt w A_l 9 enEvent l) (hc_l : l.length ≤ c_l) (hd_l : ∀ x_ ∈ (ClkS m bg G bt T en ks nn).fp, x_ ∉ (roR A_l 9 enEvent l).fp) (hok : ClkOk en nn ks G T) (hel : ∀ x ∈ l, ((-9223372036854775808 ≤ x.kind ∧ x.kind ≤ 9223372036854775807) ∧ 0 ≤ x.addr ∧ x.addr ≤ 4294967295) ∧ -9223372036854775808 ≤ x.g ∧ x.g ≤ 9223372036854775807 ∧ -9223372036854775808 ≤ x.child ∧ x.child ≤ 9223372036854775807) (hl : nn + l.length ≤ 4095) (hR0 : Reach en ks) : Calls Tryz.prog 22 #[pA m 0, vS A_l l.length c_l] w (fun e w' => ∃ s' : KSt, ∃ G' : List (Int × SV), ∃ T' : List (Thing × SV), ∃ P_ : List Int, ∃ er : Int, ∃ n' : Nat, ∃ (A_o : Option Addr) (c_o : Nat), e = .returned (vT #[vS A_o P_.length c_o, vI .i64 er]) ∧ ((s', P_, er) = allK en ks l) ∧ (ClkOk en n' s' G' T') ∧ (Reach en s') ∧ (n' ≤ nn + l.length) ∧ P_.length ≤ c_o ∧ ((roR A_o 1 enEpo P_).from_ [] w w' ∧ ∀ x_ ∈ (ClkS m bg G' bt T' en s' n').fp, x_ ∉ (roR A_o 1 enEpo P_).fp) ∧ (nestR innerSV (NV [] G' T')).from_ [nestR innerSV (NV [] G T)] w w' ∧ (∀ x_ ∈ (ClkS m bg G' bt T' en s' n').fp, x_ ∉ (nestR innerSV (NV [] G' T')).fp) ∧ Upd (ClkS m bg G bt T en ks nn) (ClkS m bg G' bt T' en s' n') w w') := by
 have _hu := hc_l; have _hv := hr_l; clear _hu _hv
 have _hu := ho_c; have _hv := hl_c; clear _hu _hv
 have _hu := hok; clear _hu
 have _hu := hel; clear _hu
 have _hu := hl; clear _hu
 have _hu := hR0; clear _hu
 have he1_ := hok.e1; have he2_ := hok.e2
 refine enter_E 34 Tryz.func22 rfl rfl (by kernel_rfl) (L := [(0, pA m 0), (1, vS A_l l.length c_l)]) (by kernel_rfl) ?_
 intro ac hA
 have hW : Ws w (· ∈ (ClkS m bg G bt T en ks nn).fp) [ClkS m bg G bt T en ks nn] [] w := objW ho_c hl_c
 clear ho_c hl_c
 have hW := hW.addG (roR A_l 9 enEvent l) hr_l (roR_lt hr_l) (by intro r_ hr_; simp only [List.mem_singleton] at hr_; subst hr_; exact hd_l)
 have hW := hW.addG _ hn_v (nest_ltSV hn_v) (by intro r_ hr_; simp only [List.mem_singleton] at hr_; subst hr_; exact he_v)
 clear hn_v he_v
 refine wr <| st_p (vS none 0 0) hA fun ac hA => st_p (vI .i64 0) hA fun ac hA => wn <| wp_seq <| wr <| st_p (pA m 0) hA ?_; clear hA ac; intro ac hA
 refine st_s hA (Runs.callN (v := vB false) (fun _ => by kernel_rfl) hW (e_knone m bg G bt T en ks nn w (clk_join ((hW).get 0 rfl) ((hW).getG 0 rfl) ((hW).gd _ (List.mem_of_getElem? (i := 0) rfl) _ (List.mem_of_getElem? (i := 0) rfl))) (clk_lt ((hW).lt _ (List.mem_of_getElem? (i := 0) rfl)) ((hW).glt _ (List.mem_of_getElem? (i := 0) rfl))) (by first | omega | assumption)) ?_); clear hA ac hW; intro w1 hW hfw1 ac hA
 refine wn <| wp_cond_false (hA.eval (by kernel_rfl)) <| wp_skip <| thenN <| wp_seq <| wr <| st_p (vS A_l l.length c_l) hA fun ac hA => st_p (vI .i64 (l.length : Int)) hA fun ac hA => st_p (vI .i64 0) hA fun ac hA => wn <| wp_block ?_
 have hW := hW.addNil 43 1 enEpo
 refine wp_loop_m (fun m_ ac_ wl_ => ∃ k : Nat, ∃ G2 : List (Int × SV), ∃ T2 : List (Thing × SV), ∃ s2 : KSt, ∃ P : List Int, ∃ A : Option Addr, ∃ cc : Nat, m_ = l.length - k ∧ (k ≤ l.length) ∧ (ClkOk en (nn + k) s2 G2 T2) ∧ (allK en ks (l.take k) = (s2, P, 0)) ∧ (Reach en s2) ∧ (P.length ≤ cc) ∧ (Res.src (nestR innerSV (NV [] G2 T2)) [nestR innerSV (NV [] G T)] w) ∧ (P.length ≤ k) ∧ Fm 34 [] [(0, pA m 0), (1, vS A_l l.length c_l), (4, vS A P.length cc), (12, vS A_l l.length c_l), (13, vI .i64 (l.length : Int)), (14, vI .i64 (k : Int))] ac_ ∧ Ws w (· ∈ (ClkS m bg G bt T en ks nn).fp) [rowR 43 1 enEpo (vS A P.length cc) P, ClkS m bg G2 bt T2 en s2 (nn + k)] [nestR innerSV (NV [] G2 T2), roR A_l 9 enEvent l] wl_) _ ⟨0, G, T, ks, ([] : List Int), none, 0, rfl, by omega, by exact hok, by rfl, by exact hR0, by simp, by exact (src_arg (.head _)), by simp, hA.sub (by and_intros <;> first | kernel_rfl | trivial), (hW.pick [0, 1] (by decide) rfl).pickG [0, 1] rfl⟩ ?_
 clear hA ac hW; rintro m_ ac w2 ⟨k, G2, T2, s2, P, A, cc, rfl, hk, hok2, hP, hR, hcc, hsN, hPl, hA, hW⟩
 refine wr <| st_p (vB (decide ((k : Int) < (l.length : Int)))) hA ?_; clear hA ac; intro ac hA
 refine wn <| wp_seq <| wp_cond_split (t := decide ((k : Int) < (l.length : Int))) (hA.eval (by kernel_rfl)) (fun h3 => ?_) (fun h3 => ?_)
 ·
  have h3 := of_decide_eq_true h3
  first
  | (exfalso; clear hA hW; omega)
  | (
   refine wp_skip <| thenN <| wp_seq <| wp_block <| wp_seq ?_
   obtain ⟨y4, hy4⟩ : ∃ y, l[k]? = some y := ⟨_, List.getElem?_eq_getElem (by omega)⟩
   obtain ⟨b5, o6, rfl, hbb5⟩ := row_some ((hW).getG 1 rfl) hy4
   have hyr_ := hel _ (List.mem_of_getElem? hy4)
   refine wp_region_lit <| st_q (vP (some ⟨b5, o6 + k * 9, none⟩)) hA hW.cls (Rd.indexAddr (e := 42) (sz := 9) (b := b5) (off := o6) (n := l.length) (c := c_l) (k := k) (by kernel_rfl) (by kernel_rfl) (by first | omega | (simp; done) | (simp; omega)) (fun _ => by kernel_rfl) (fun _ => by kernel_rfl)) fun ac hA => st_q (vA #[vI .i64 y4.g, vI .i64 y4.kind, vI .i64 y4.site.f, vI .i64 y4.site.pc, vI .u32 y4.addr, vI .i64 y4.child, vI .i64 y4.obj, vI .i64 y4.n, vI .i64 y4.trap]) hA hW.cls (Rd.loadRow (b := b5) (i := o6 + k * 9) (xs := [vI .i64 y4.g, vI .i64 y4.kind, vI .i64 y4.site.f, vI .i64 y4.site.pc, vI .u32 y4.addr, vI .i64 y4.child, vI .i64 y4.obj, vI .i64 y4.n, vI .i64 y4.trap]) (by kernel_rfl) (fun _ hw => row_ld ((hw.1).getG 1 rfl) hy4 (Fr.refl No _) (fun h => h) 0 9 (by kernel_rfl)) (by kernel_rfl)) fun ac hA => st_s hA (Runs.cells (fun b => pA b 0) #[vI .i64 0, vI .i64 0, vI .i64 0, vI .i64 0, vI .u32 0, vI .i64 0, vI .i64 0, vI .i64 0, vI .i64 0] 42 (fun _ => by kernel_rfl) hW ?_); clear hA ac hW; intro b7 w8 hW hb7 hfw8 ac hA
   refine st_s hA (Runs.store (v := vA #[vI .i64 y4.g, vI .i64 y4.kind, vI .i64 y4.site.f, vI .i64 y4.site.pc, vI .u32 y4.addr, vI .i64 y4.child, vI .i64 y4.obj, vI .i64 y4.n, vI .i64 y4.trap]) (b := b7) (j := 0) (n := 9) (cs' := #[vI .i64 y4.g, vI .i64 y4.kind, vI .i64 y4.site.f, vI .i64 y4.site.pc, vI .u32 y4.addr, vI .i64 y4.child, vI .i64 y4.obj, vI .i64 y4.n, vI .i64 y4.trap]) (H' := [Cel b7 #[vI .i64 y4.g, vI .i64 y4.kind, vI .i64 y4.site.f, vI .i64 y4.site.pc, vI .u32 y4.addr, vI .i64 y4.child, vI .i64 y4.obj, vI .i64 y4.n, vI .i64 y4.trap] 42, rowR 43 1 enEpo (vS A P.length cc) P, ClkS m bg G2 bt T2 en s2 (nn + k)]) (by kernel_rfl) (by kernel_rfl) (by kernel_rfl) (by kernel_rfl) (by kernel_rfl) hW 0 (by rfl) (Nat.le_of_ble_eq_true (by kernel_rfl)) (by kernel_rfl) (by rfl) ?_); clear hA ac hW; intro w9 hW ac hA
   refine wn <| wr <| st_p (pA m 0) hA fun ac hA => st_q (vA #[vI .i64 y4.g, vI .i64 y4.kind, vI .i64 y4.site.f, vI .i64 y4.site.pc, vI .u32 y4.addr, vI .i64 y4.child, vI .i64 y4.obj, vI .i64 y4.n, vI .i64 y4.trap]) hA hW.cls (rl b7 0 0) fun ac hA => st_s hA (Runs.call (fun _ => by kernel_rfl) (e_kcomeS m bg G2 bt T2 en s2 (nn + k) y4 w9 ((hW).get 2 rfl) ((hW).lt _ (List.mem_of_getElem? (i := 2) rfl)) ((hW).getG 0 rfl) ((hW).gd _ (List.mem_of_getElem? (i := 0) rfl) _ (List.mem_of_getElem? (i := 2) rfl)) hok2 hyr_.1.2 hyr_.2 (by first | omega | assumption) hR.own) ?_)
   rintro _ w10 ⟨u11, u12, u13, u14, u15, rfl, hw10_hE, hw10_hK, hnf_, hne_, hu_⟩; refine ⟨_, rfl, ?_⟩; have hW0 := hW; have hW := hW.upd (H' := [Cel b7 #[vI .i64 y4.g, vI .i64 y4.kind, vI .i64 y4.site.f, vI .i64 y4.site.pc, vI .u32 y4.addr, vI .i64 y4.child, vI .i64 y4.obj, vI .i64 y4.n, vI .i64 y4.trap] 42, rowR 43 1 enEpo (vS A P.length cc) P, ClkS m bg u14 bt u15 en u11 ((nn + k) + 1)]) 2 rfl hu_ rfl; have hW := hW0.addFromU hW 2 rfl rfl hnf_ (in_cons (in_at 0 rfl) in_nil) hne_
   have hknv16 : ∀ x_ ∈ (NV [] u14 u15), capSV x_ := hw10_hK.cap
   have hsnv16 : Res.src (nestR innerSV (NV [] u14 u15)) [nestR innerSV (NV [] G T)] w := src_call hnf_ (srcs_cons hsN srcs_nil) hW0.fr.size
   clear hW0 hu_ hnf_ hne_  hA ac; intro ac hA
   refine st_p (vT #[vI .u64 u12, vI .i64 u13]) hA fun ac hA => st_p (vI .u64 u12) hA fun ac hA => st_p (vI .i64 u13) hA fun ac hA => st_p (vI .u64 u12) hA fun ac hA => st_p (vI .i64 u13) hA fun ac hA => wn <| wp_seq <| wr <| st_p (vI .i64 u13) hA fun ac hA => st_p (vB ((u13 : Int) != (0 : Int))) hA fun ac hA => wn <| wp_cond_split (t := (u13 : Int) != (0 : Int)) (hA.eval (by kernel_rfl)) (fun h17 => ?_) (fun h17 => ?_)
   ·
    have h17 := bne_iff_ne.1 h17
    first
    | (exfalso; clear hA hW; omega)
    | (
     refine wr <| st_p (vS A P.length cc) hA fun ac hA => st_p (vI .i64 u13) hA fun ac hA => st_p (vS A P.length cc) hA fun ac hA => st_p (vI .i64 u13) hA fun ac hA => wn <| wp_ret <| thenR <| blkR <| thenR <| thenR <| blkR <| thenR <| ret2 (v1 := vS A P.length cc) (v2 := vI .i64 u13) (by rfl) hA (Got.tmp hA (by kernel_rfl) (by kernel_rfl)) (Got.tmp hA (by kernel_rfl) (by kernel_rfl)) ?_
     clear hA
     have hP_ := hW.pick [2, 1] (by decide) rfl
     exact ⟨u11, u14, u15, P, u13, (nn + k) + 1, A, cc, by first | rfl | (simp; done), by exact (allK_stop hP hy4 hw10_hE h17).symm, by exact hw10_hK, by exact hR.come hw10_hE, by omega, (own_cap ((hW).get 1 rfl)), hP_.outRowU 1 rfl elt_Epo.len 0 rfl (by decide) (fun _ h_ => h_), hP_.outSrc 0 rfl hsnv16, hP_.gd _ (List.mem_of_getElem? (i := 0) rfl) _ (.head _), hP_.updDone 0 rfl⟩)
   have h17 := of_bne_f h17
   first
   | (exfalso; clear hA hW; omega)
   | (
    refine wp_skip <| thenN <| wp_region_lit <| st_p (vS A P.length cc) hA fun ac hA => st_p (vI .u64 u12) hA fun ac hA => ?_
    have hzb18 := hW.fr.size
    refine st_s hA (Runs.cells (fun b => vS (some ⟨b, 0, none⟩) 1 1) #[vI .u64 u12] 43 (fun _ => by kernel_rfl) hW ?_); clear hA ac hW; intro b18 w19 hW hb18 hfw19 ac hA
    refine st_s hA (Runs.appOwn (B := (some ⟨b18, 0, none⟩)) (k := 1) (E := 43) (sz := 1) (en := enEpo) (l := P) (m := ([u12] : List Int)) (i := 2) (by kernel_rfl) (by kernel_rfl) elt_Epo (by kernel_rfl) hW rfl (rowAt_cel ((hW).cel 0 rfl) ([u12] : List Int) (by rfl) elt_Epo.len) (by first | omega | (simp; done) | (simp; omega)) (by first | omega | (simp; done) | (simp; omega)) ?_); clear hA ac hW; intro A20 c21 w22 hW hcc21 ac hA
    refine st_p (vS A20 (P ++ ([u12] : List Int)).length c21) hA ?_; clear hA ac; intro ac hA
    refine wpList_nil <| blkN <| thenN <| wp_region_lit <| st_q (vI .i64 ((k + 1 : Nat) : Int)) hA hW.cls (Rd.pureE (v0 := vI .i64 (IntKind.i64.wrap ((k : Int) + 1))) (fun _ => by kernel_rfl) (congrArg (vI .i64) ((w_i64 (x := (k : Int) + 1) (by omega) (by omega)).trans (by omega)))) fun ac hA => st_p (vI .i64 ((k + 1 : Nat) : Int)) hA fun ac hA => wn ?_
    exact ⟨l.length - (k + 1), by omega, k + 1, u14, u15, u11, P ++ ([u12] : List Int), A20, c21, rfl, by omega, by exact hw10_hK, by exact allK_go hP hy4 hw10_hE (by omega), by exact hR.come hw10_hE, by exact (own_cap ((hW).get 2 rfl)), by exact hsnv16, by simp; omega, hA.sub (by and_intros <;> first | kernel_rfl | trivial), (hW.pick [2, 3] (by decide) rfl).pickG [0, 2] rfl⟩))
 have h3 := of_decide_eq_false h3
 first
 | (exfalso; clear hA hW; omega)
 | (
  refine wp_exit <| thenX <| thenX <| blkX <| thenN <| wr <| st_p (vS A P.length cc) hA fun ac hA => st_p (vS A P.length cc) hA fun ac hA => st_p (vI .i64 0) hA fun ac hA => wn <| wp_ret <| ret2 (v1 := vS A P.length cc) (v2 := vI .i64 0) (by rfl) hA (Got.tmp hA (by kernel_rfl) (by kernel_rfl)) (Got.tmp hA (by kernel_rfl) (by kernel_rfl)) ?_
  clear hA
  rw [List.take_of_length_le (by omega)] at hP
  have hP_ := hW.pick [1, 0] (by decide) rfl
  exact ⟨s2, G2, T2, P, 0, nn + k, A, cc, by first | rfl | (simp; done), by exact hP.symm, by exact hok2, by exact hR, by omega, (own_cap ((hW).get 0 rfl)), hP_.outRowU 1 rfl elt_Epo.len 0 rfl (by decide) (fun _ h_ => h_), hP_.outSrc 0 rfl hsN, hP_.gd _ (List.mem_of_getElem? (i := 0) rfl) _ (.head _), hP_.updDone 0 rfl⟩)

set_option maxRecDepth 100000 in
theorem e_kcopy (m : Nat) (bg : Nat) (G : List (Int × SV)) (bt : Nat) (T : List (Thing × SV)) (en : Int) (ks : KSt) (nn : Nat) (w : World) (ho_c : (ClkR m bg G bt T en ks nn).p w) (hl_c : ∀ x_ ∈ (ClkR m bg G bt T en ks nn).fp, x_ < w.heap.size) (hok : ClkOk en nn ks G T) : Calls Tryz.prog 23 #[pA m 0] w (fun e w' => ∃ m' : Nat, ∃ bg' : Nat, ∃ bt' : Nat, e = .returned (vP (some ⟨m', 0, none⟩)) ∧ Made (ClkS m' bg' G bt' T en ks nn) w w') := by
 have _hu := ho_c; have _hv := hl_c; clear _hu _hv
 have _hu := hok; clear _hu
 have he1_ := hok.e1; have he2_ := hok.e2
 refine enter_E 24 Tryz.func23 rfl rfl (by kernel_rfl) (L := [(0, pA m 0)]) (by kernel_rfl) ?_
 intro ac hA
 have hW := Ws.start w No
 have hW := hW.addG (ClkR m bg G bt T en ks nn) ho_c hl_c (by simp)
 have hW := hW.objG (L := [Cel m #[vM (some bg), vM (some bt), vI .u64 en] 77, mapR bg (fun a : Int => vI .i64 a) SV.v G, mapR bt Thing.v SV.v T, nestR innerSV (NV [] G T)]) ho_c hl_c
 clear ho_c hl_c
 refine wr <| st_p (vP none) hA ?_; clear hA ac; intro ac hA
 refine wn <| wp_seq <| wr <| st_p (pA m 0) hA ?_; clear hA ac; intro ac hA
 refine st_s hA (Runs.callN (v := vB false) (fun _ => by kernel_rfl) hW (e_knone m bg G bt T en ks nn w ((hW).getG 4 rfl) ((hW).glt _ (List.mem_of_getElem? (i := 4) rfl)) (by first | omega | assumption)) ?_); clear hA ac hW; intro w1 hW hfw1 ac hA
 refine wn <| wp_cond_false (hA.eval (by kernel_rfl)) <| wp_skip <| thenN <| wp_seq <| wp_cut (fun ac_ wl_ => ∃ br3_18 : Nat, ∃ n0r3_11 : Nat, ∃ n0r3_5 : Nat, Fm 24 [] [(0, pA m 0), (2, pA br3_18 0), (3, pA m 0), (4, vB false)] ac_ ∧ Ws w No [Cel br3_18 #[vM (some n0r3_5), vM (some n0r3_11), vI .u64 en] 77, mapR n0r3_11 Thing.v SV.v T, mapR n0r3_5 (fun a : Int => vI .i64 a) SV.v G] [Cel m #[vM (some bg), vM (some bt), vI .u64 en] 77, mapR bg (fun a : Int => vI .i64 a) SV.v G, mapR bt Thing.v SV.v T, nestR innerSV (NV [] G T), ClkR m bg G bt T en ks nn] wl_) ?_ ?_
 · refine sr_region (m := 20) (C := Ws w No [] [Cel m #[vM (some bg), vM (some bt), vI .u64 en] 77, mapR bg (fun a : Int => vI .i64 a) SV.v G, mapR bt Thing.v SV.v T, nestR innerSV (NV [] G T), ClkR m bg G bt T en ks nn]) (fun i => [4, 10, 16].contains i) (fun i => [4, 5, 10, 11, 16].contains i) (fun i => [0, 1, 2, 3, 6, 7, 8, 9, 12, 13, 14, 15, 17, 19].contains i) (by kernel_rfl) (by kernel_rfl) (by kernel_rfl) (by kernel_rfl) hW ?_; clear hW; intro w2 hW hfw2 hR; have hC : Ws w No [] [Cel m #[vM (some bg), vM (some bt), vI .u64 en] 77, mapR bg (fun a : Int => vI .i64 a) SV.v G, mapR bt Thing.v SV.v T, nestR innerSV (NV [] G T), ClkR m bg G bt T en ks nn] w2 := hW.pick [] (by decide) rfl
   refine sr_p 0 (pA m 0) hR rfl hA fun ac hA => sr_p 1 (pA m 0) hR rfl hA fun ac hA => sr_p 2 (pA m 0) hR rfl hA fun ac hA => sr_p 3 (pA m 0) hR rfl hA fun ac hA => sr_t 4 (vM (some bg)) hR rfl hA hC (Rd.load (b := m) (i := 0) (by kernel_rfl) (fun _ hw => show _ = _ from (hw).getG 0 rfl) (by kernel_rfl)) fun ac hA => sr_p 6 (pA m 0) hR rfl hA fun ac hA => sr_p 7 (pA m 0) hR rfl hA fun ac hA => sr_p 8 (pA m 0) hR rfl hA fun ac hA => sr_p 9 (pA m 1) hR rfl hA fun ac hA => sr_t 10 (vM (some bt)) hR rfl hA hC (Rd.load (b := m) (i := 1) (by kernel_rfl) (fun _ hw => show _ = _ from (hw).getG 0 rfl) (by kernel_rfl)) fun ac hA => sr_p 13 (pA m 0) hR rfl hA fun ac hA => sr_p 14 (pA m 0) hR rfl hA fun ac hA => sr_p 15 (pA m 2) hR rfl hA fun ac hA => sr_t 16 (vI .u64 en) hR rfl hA hC (Rd.load (b := m) (i := 2) (by kernel_rfl) (fun _ hw => show _ = _ from (hw).getG 0 rfl) (by kernel_rfl)) fun ac hA => sr_one (i := 5) (by kernel_rfl) (sr_d rfl hA (Runs.call (fun _ => by kernel_rfl) (e_cloneG w2 ((hW).getG 1 rfl)) ?_))
   rintro _ w3 ⟨n0r3_5, rfl, hu_⟩; refine ⟨_, rfl, ?_⟩; replace hW := hW.made hu_; clear hA ac; intro ac hA
   refine ⟨⟨fun _ => (hW.pick [] (by decide) rfl).pickG [0, 1, 2, 3, 4] rfl, fun h => absurd h (by decide)⟩, ?_⟩; have hC : Ws w No [] [Cel m #[vM (some bg), vM (some bt), vI .u64 en] 77, mapR bg (fun a : Int => vI .i64 a) SV.v G, mapR bt Thing.v SV.v T, nestR innerSV (NV [] G T), ClkR m bg G bt T en ks nn] w3 := (hW.pick [] (by decide) rfl).pickG [0, 1, 2, 3, 4] rfl
   refine sr_one (i := 11) (by kernel_rfl) (sr_d rfl hA (Runs.call (fun _ => by kernel_rfl) (e_cloneT w3 ((hW).getG 2 rfl)) ?_))
   rintro _ w4 ⟨n0r3_11, rfl, hu_⟩; refine ⟨_, rfl, ?_⟩; replace hW := hW.made hu_; clear hA ac; intro ac hA
   refine ⟨⟨fun _ => (hW.pick [] (by decide) rfl).pickG [0, 1, 2, 3, 4] rfl, fun h => absurd h (by decide)⟩, ?_⟩; have hC : Ws w No [] [Cel m #[vM (some bg), vM (some bt), vI .u64 en] 77, mapR bg (fun a : Int => vI .i64 a) SV.v G, mapR bt Thing.v SV.v T, nestR innerSV (NV [] G T), ClkR m bg G bt T en ks nn] w4 := (hW.pick [] (by decide) rfl).pickG [0, 1, 2, 3, 4] rfl
   refine sr_p 12 (vA #[vM (some n0r3_5), vM (some n0r3_11)]) hR rfl hA fun ac hA => sr_p 17 (vA #[vM (some n0r3_5), vM (some n0r3_11), vI .u64 en]) hR rfl hA fun ac hA => sr_one (i := 18) (by kernel_rfl) (sr_d rfl hA (Runs.cells (fun b => pA b 0) #[vM (some n0r3_5), vM (some n0r3_11), vI .u64 en] 77 (fun _ => by kernel_rfl) hW ?_)); clear hA ac hW; intro br3_18 w5 hW hbr3_18 hfw5 ac hA
   refine qn <| sr_p 19 (pA br3_18 0) hR rfl hA ?_; clear hA ac; intro ac hA
   refine sr_done (by kernel_rfl) ?_ _
   exact ⟨br3_18, n0r3_11, n0r3_5, hA.sub (by and_intros <;> first | kernel_rfl | trivial), (hW.pick [0, 1, 2] (by decide) rfl).pickG [0, 1, 2, 3, 4] rfl⟩
 clear hA ac hW; rintro ac w6 ⟨br3_18, n0r3_11, n0r3_5, hA, hW⟩
 refine thenN <| wp_ret <| r1 (pA br3_18 0) hA ?_
 clear hA
 have hW : Ws w No [ClkS br3_18 n0r3_5 G n0r3_11 T en ks nn] [Cel m #[vM (some bg), vM (some bt), vI .u64 en] 77, mapR bg (fun a : Int => vI .i64 a) SV.v G, mapR bt Thing.v SV.v T, nestR innerSV (NV [] G T), ClkR m bg G bt T en ks nn] w6 := Ws.pack (K := []) (hW.pick [0, 2, 1] (by decide) rfl)
 exact ⟨br3_18, n0r3_5, n0r3_11, rfl, hW.madeDone 0 rfl⟩

end Go.Proofs.YtjegpelofdopmaaGreatDoor.L
