/- Contracts, walked by program over the engine's laws. -/
import Derived.Test.YtgkhaoogfpnbbaaProg
import Derived.Test.YtgkhaoogfpnbbaaT9
namespace Go.Proofs.Ytgkhaoogfpnbbaa.L
open Go.RowKit

theorem map_fst_snoc {α β : Type} (l : List (α × β)) (y : α × β) : l.map Prod.fst ++ [y.1] = (l ++ [y]).map Prod.fst := by simp
theorem zip_fst {α : Type} (l : List α) (n : Nat) : (l.zipIdx n).map Prod.fst = l := by
  induction l generalizing n with
  | nil => rfl
  | cons a l ih => rw [List.zipIdx_cons, List.map_cons, ih]
theorem pseq_lt {m : List (Pair × Int)} {pre : List (Pair × Nat)} {x : Pair × Nat} (hc : Comes (fun l_ : List (Pair × Nat) => ∃ ks : List Pair, ks.Perm (keys m) ∧ l_ = ks.zipIdx) pre x) (hm : m.length ≤ 100000) : pre.length < 100000 := by
  obtain ⟨xs, ⟨ks, hp, rfl⟩, t, ht⟩ := hc
  have h1 := congrArg List.length ht
  have h2 := hp.length_eq
  simp [keys] at h1 h2
  omega
set_option maxRecDepth 100000 in
theorem e_tcopy (t : Nat) (p : Nat) (b : Nat) (A : Option Addr) (c : Nat) (T : Tab) (w : World) (ho_t : (TabR t p b A c T).p w) (hl_t : ∀ x_ ∈ (TabR t p b A c T).fp, x_ < w.heap.size) (hl : T.l.length ≤ 100000 ∧ T.m.length ≤ 100000) (hn : (keys T.m).Nodup) (hok : ∀ x ∈ keys T.m, x.ok = true) : Calls Try.prog 18 #[Value.pointer (some ⟨t, 0, none⟩)] w (fun e w' => ∃ nt : Nat, ∃ np : Nat, ∃ nb : Nat, ∃ A' : Option Addr, ∃ c' : Nat, ∃ ks : List Pair, e = .returned (Value.pointer (some ⟨nt, 0, none⟩)) ∧ (ks.Perm (keys T.m)) ∧ Made (TabR nt np nb A' c' (⟨T.most, T.dropped, ones ks, T.l⟩)) w w') := by
 have _hu := ho_t; have _hv := hl_t; clear _hu _hv
 have _hu := hl; clear _hu
 have _hu := hn; clear _hu
 have _hu := hok; clear _hu
 refine enter_F 37 Try.func18 rfl rfl (by kernel_rfl) (L := [(0, Value.pointer (some ⟨t, 0, none⟩))]) (by kernel_rfl) ?_
 intro ac hA
 have hW := Ws.start w No
 have hW := hW.objG (L := [Cel t #[Value.pointer (some ⟨p, 0, none⟩), Value.int .i64 T.most, Value.int .i64 T.dropped, Value.slice A T.l.length c] 61, Cel p #[Value.map (some b)] 91, mapR b Pair.v (fun a : Int => Value.int .i64 a) T.m, rowR 43 10 enFlag (Value.slice A T.l.length c) T.l]) ho_t hl_t
 clear ho_t hl_t
 refine wpIn_seq ?_
 refine wpIn_region_lit ?_
 refine st_rdF (v := Value.pointer none) hA (by kernel_rfl) (by kernel_rfl) (by kernel_rfl) (by kernel_rfl) hW.cls (Rd.pure fun _ => by kernel_rfl) ?_; clear hA ac; intro ac hA
 refine wpListIn_nil ?_
 refine thenN ?_
 refine wpIn_seq ?_
 refine wpIn_seq ?_
 refine wpIn_region_lit ?_
 refine st_rdF (v := Value.pointer (some ⟨t, 0, none⟩)) hA (by kernel_rfl) (by kernel_rfl) (by kernel_rfl) (by kernel_rfl) hW.cls (Rd.pure fun _ => by kernel_rfl) ?_; clear hA ac; intro ac hA
 refine stF hA (by kernel_rfl) (by kernel_rfl) (by kernel_rfl) (by kernel_rfl) (RunsF.of (Runs.callS (v := Value.bool false) (fun _ => by kernel_rfl) (e_tnone t p (Value.int .i64 T.most) (Value.int .i64 T.dropped) (Value.slice A T.l.length c) w (show _ = _ from (hW).getG 0 rfl)) ?_)); clear hA ac; intro  ac hA
 refine wpListIn_nil ?_
 refine thenN ?_
 refine wpIn_cond_false (hA.eval (by kernel_rfl)) ?_
 refine wpIn_skip ?_
 refine thenN ?_
 refine wpIn_seq ?_
 refine wpIn_region_lit ?_
 refine stF hA (by kernel_rfl) (by kernel_rfl) (by kernel_rfl) (by kernel_rfl) (RunsF.of (Runs.cells (fun b => Value.pointer (some ⟨b, 0, none⟩)) #[Value.slice none 0 0] 27 (fun _ => by kernel_rfl) hW ?_)); clear hA ac hW; intro b1 w2 hW hb1 hfw2 ac hA
 refine wpListIn_nil ?_
 refine thenN ?_
 refine wpIn_seq ?_
 refine wpIn_seq ?_
 have hW := hW.addNil 54 4 enPair
 refine wpIn_region_lit ?_
 refine st_rdF (v := Value.pointer (some ⟨t, 0, none⟩)) hA (by kernel_rfl) (by kernel_rfl) (by kernel_rfl) (by kernel_rfl) hW.cls (Rd.pure fun _ => by kernel_rfl) ?_; clear hA ac; intro ac hA
 refine st_rdF (v := Value.pointer (some ⟨t, 0, none⟩)) hA (by kernel_rfl) (by kernel_rfl) (by kernel_rfl) (by kernel_rfl) hW.cls (Rd.pure fun _ => by kernel_rfl) ?_; clear hA ac; intro ac hA
 refine st_rdF (v := Value.pointer (some ⟨t, 0, none⟩)) hA (by kernel_rfl) (by kernel_rfl) (by kernel_rfl) (by kernel_rfl) hW.cls (Rd.pure fun _ => by kernel_rfl) ?_; clear hA ac; intro ac hA
 refine st_rdF (v := Value.pointer (some ⟨t, 0, none⟩)) hA (by kernel_rfl) (by kernel_rfl) (by kernel_rfl) (by kernel_rfl) hW.cls (Rd.pure fun _ => by kernel_rfl) ?_; clear hA ac; intro ac hA
 refine st_rdF (v := Value.pointer (some ⟨p, 0, none⟩)) hA (by kernel_rfl) (by kernel_rfl) (by kernel_rfl) (by kernel_rfl) hW.cls (Rd.load (b := t) (i := 0) (by kernel_rfl) (fun _ hw => show _ = _ from (hw.1).getG 0 rfl) (by kernel_rfl)) ?_; clear hA ac; intro ac hA
 refine stF hA (by kernel_rfl) (by kernel_rfl) (by kernel_rfl) (by kernel_rfl) (RunsF.of (Runs.call (fun _ => by kernel_rfl) (e_pall p b T.m w2 (PairsR.mk ((hW).getG 1 rfl) ((hW).getG 2 rfl)).1 (PairsR.mk ((hW).getG 1 rfl) ((hW).getG 2 rfl)).2 (by first | omega | assumption)) ?_))
 rintro _ w3 ⟨lb4, g5, rfl, hIg5, hfg5, hfw3⟩; refine ⟨_, rfl, ?_⟩; have hW0 := hW; have hW := hW0.call hfw3; have hW := hW0.addFromAt hW hfg5 in_nil; clear hW0 hA ac; intro ac hA
 refine wpListIn_nil ?_
 refine thenN ?_
 refine wpIn_block ?_
 refine wp_range (encs := (fun x_ : Pair × Nat => #[Value.int .i64 ((x_.2 : Nat) : Int), x_.1.v])) (Sx := (fun l_ : List (Pair × Nat) => ∃ ks : List Pair, ks.Perm (keys T.m) ∧ l_ = ks.zipIdx)) hA (by kernel_rfl) (by kernel_rfl) (enters_of Try.func53 (by kernel_rfl) rfl) (by kernel_rfl) (fun _ => rfl) hIg5 (List.forall_mem_singleton.2 (List.mem_of_getElem? (i := 0) rfl)) (fun pre_ H_ => ∃ A3 : Option Addr, ∃ c3 : Nat, True ∧ ((pre_.map Prod.fst).length ≤ c3 ∧ pre_.length ≤ 100000) ∧ H_ = [Cel b1 #[Value.slice A3 (pre_.map Prod.fst).length c3] 27, rowR 54 4 enPair (Value.slice A3 (pre_.map Prod.fst).length c3) (pre_.map Prod.fst)]) (fun _ _ _ => False) (H := [Cel b1 #[Value.slice none 0 0] 27, rowR 54 4 enPair (Value.slice none 0 0) ([] : List Pair)]) (K := []) (hW.pick [1, 0] (by decide) rfl) ⟨none, 0, trivial, by simp, rfl⟩ ?_ ?_ ?_
 · skip
   clear hA ac hW; intro l_6 rd_6 bs_6 pre_ x_ Hk_ w7 T_6 ac hrd_6 hbs_6 hbr_6 hok_ hJ_ hA hW hB_6 hT_6
   obtain ⟨A3, c3, _, hcap, rfl⟩ := hJ_
   obtain ⟨y8, h_⟩ : ∃ y_, y_ = x_ := ⟨_, rfl⟩; subst h_
   replace hA : Fm 37 [] [(0, Value.pointer (some ⟨t, 0, none⟩)), (2, Value.pointer none), (3, Value.pointer (some ⟨b1, 0, none⟩)), (7, Value.pointer (some ⟨t, 0, none⟩)), (8, Value.bool false), (9, Value.pointer (some ⟨t, 0, none⟩)), (10, Value.pointer (some ⟨t, 0, none⟩)), (11, Value.pointer (some ⟨t, 0, none⟩)), (12, Value.pointer (some ⟨t, 0, none⟩)), (13, Value.pointer (some ⟨p, 0, none⟩)), (14, Value.func (.func 53) #[] lb4), (15, Value.int .i64 ((y8.2 : Nat) : Int)), (16, y8.1.v)] ac := hA.sub ⟨⟨by kernel_rfl, by kernel_rfl⟩, ⟨by kernel_rfl, by kernel_rfl⟩, ⟨by kernel_rfl, by kernel_rfl⟩, ⟨by kernel_rfl, by kernel_rfl⟩, ⟨by kernel_rfl, by kernel_rfl⟩, ⟨by kernel_rfl, by kernel_rfl⟩, ⟨by kernel_rfl, by kernel_rfl⟩, ⟨by kernel_rfl, by kernel_rfl⟩, ⟨by kernel_rfl, by kernel_rfl⟩, ⟨by kernel_rfl, by kernel_rfl⟩, ⟨by kernel_rfl, by kernel_rfl⟩, ⟨by kernel_rfl, by kernel_rfl⟩, ⟨by kernel_rfl, by kernel_rfl⟩, trivial⟩
   have hpl_ := pseq_lt hok_ hl.2
   refine wpIn_region_lit ?_
   refine stF hA (by kernel_rfl) (by kernel_rfl) (by kernel_rfl) (by kernel_rfl) (RunsF.of (Runs.cells (fun b => Value.pointer (some ⟨b, 0, none⟩)) #[Value.int .i64 0, Value.int .i64 0, Value.int .i64 0, Value.int .i64 0] 54 (fun _ => by kernel_rfl) hW ?_)); clear hA ac hW; intro b9 w10 hW hb9 hfw10 ac hA
   refine stF hA (by kernel_rfl) (by kernel_rfl) (by kernel_rfl) (by kernel_rfl) (RunsF.of (Runs.store (v := y8.1.v) (b := b9) (j := 0) (n := 4) (cs' := #[Value.int .i64 y8.1.a.f, Value.int .i64 y8.1.a.pc, Value.int .i64 y8.1.b.f, Value.int .i64 y8.1.b.pc]) (H' := [Cel b9 #[Value.int .i64 y8.1.a.f, Value.int .i64 y8.1.a.pc, Value.int .i64 y8.1.b.f, Value.int .i64 y8.1.b.pc] 54, rd_6, Cel b1 #[Value.slice A3 (pre_.map Prod.fst).length c3] 27, rowR 54 4 enPair (Value.slice A3 (pre_.map Prod.fst).length c3) (pre_.map Prod.fst)]) (by kernel_rfl) (by kernel_rfl) (by kernel_rfl) (by kernel_rfl) (by kernel_rfl) hW 0 (by rfl) (Nat.le_of_ble_eq_true (by kernel_rfl)) (by kernel_rfl) (by rfl) ?_)); clear hA ac hW; intro w11 hW ac hA
   refine wpListIn_nil ?_
   refine thenN ?_
   refine begun (bs := bs_6) (H' := [Cel b9 #[Value.int .i64 y8.1.a.f, Value.int .i64 y8.1.a.pc, Value.int .i64 y8.1.b.f, Value.int .i64 y8.1.b.pc] 54, bs_6, Cel b1 #[Value.slice A3 (pre_.map Prod.fst).length c3] 27, rowR 54 4 enPair (Value.slice A3 (pre_.map Prod.fst).length c3) (pre_.map Prod.fst)]) hW 1 rfl (fun b hb => by rw [hbs_6] at hb; rw [hrd_6]; exact hb) rfl ?_; clear hW; intro w12 hW
   refine wpIn_block ?_
   refine wpIn_region_lit ?_
   refine st_rdF (v := Value.slice A3 (pre_.map Prod.fst).length c3) hA (by kernel_rfl) (by kernel_rfl) (by kernel_rfl) (by kernel_rfl) hW.cls (Rd.load (b := b1) (i := 0) (by kernel_rfl) (fun _ hw => (hw.1).cel 2 rfl) (by kernel_rfl)) ?_; clear hA ac; intro ac hA
   refine st_rdF (v := Value.agg #[Value.int .i64 y8.1.a.f, Value.int .i64 y8.1.a.pc, Value.int .i64 y8.1.b.f, Value.int .i64 y8.1.b.pc]) hA (by kernel_rfl) (by kernel_rfl) (by kernel_rfl) (by kernel_rfl) hW.cls (Rd.load (b := b9) (i := 0) (by kernel_rfl) (fun _ hw => (hw.1).cel 0 rfl) (by kernel_rfl)) ?_; clear hA ac; intro ac hA
   refine stF hA (by kernel_rfl) (by kernel_rfl) (by kernel_rfl) (by kernel_rfl) (RunsF.of (Runs.cells (fun b => Value.slice (some ⟨b, 0, none⟩) 1 1) #[Value.int .i64 y8.1.a.f, Value.int .i64 y8.1.a.pc, Value.int .i64 y8.1.b.f, Value.int .i64 y8.1.b.pc] 54 (fun _ => by kernel_rfl) hW ?_)); clear hA ac hW; intro b13 w14 hW hb13 hfw14 ac hA
   refine stF hA (by kernel_rfl) (by kernel_rfl) (by kernel_rfl) (by kernel_rfl) (RunsF.of (Runs.appOwn (B := (some ⟨b13, 0, none⟩)) (k := 1) (E := 54) (sz := 4) (en := enPair) (l := (pre_.map Prod.fst)) (m := ([y8.1] : List Pair)) (i := 4) (by kernel_rfl) (by kernel_rfl) elt_Pair (by kernel_rfl) hW rfl (rowAt_cel ((hW).cel 0 rfl) ([y8.1] : List Pair) (by rfl) elt_Pair.len) (by first | omega | (simp; done) | (simp; omega)) (by first | omega | (simp; done) | (simp; omega)) ?_)); clear hA ac hW; intro A15 c16 w17 hW hcc16 ac hA
   refine stF hA (by kernel_rfl) (by kernel_rfl) (by kernel_rfl) (by kernel_rfl) (RunsF.of (Runs.store (v := Value.slice A15 ((pre_.map Prod.fst) ++ ([y8.1] : List Pair)).length c16) (b := b1) (j := 0) (n := 1) (cs' := #[Value.slice A15 ((pre_.map Prod.fst) ++ ([y8.1] : List Pair)).length c16]) (H' := [Cel b13 #[Value.int .i64 y8.1.a.f, Value.int .i64 y8.1.a.pc, Value.int .i64 y8.1.b.f, Value.int .i64 y8.1.b.pc] 54, Cel b9 #[Value.int .i64 y8.1.a.f, Value.int .i64 y8.1.a.pc, Value.int .i64 y8.1.b.f, Value.int .i64 y8.1.b.pc] 54, bs_6, Cel b1 #[Value.slice A15 ((pre_.map Prod.fst) ++ ([y8.1] : List Pair)).length c16] 27, rowR 54 4 enPair (Value.slice A15 ((pre_.map Prod.fst) ++ ([y8.1] : List Pair)).length c16) ((pre_.map Prod.fst) ++ ([y8.1] : List Pair))]) (by kernel_rfl) (by kernel_rfl) (by kernel_rfl) (by kernel_rfl) (by kernel_rfl) hW 3 (by rfl) (Nat.le_of_ble_eq_true (by kernel_rfl)) (by kernel_rfl) (by rfl) ?_)); clear hA ac hW; intro w18 hW ac hA
   refine wpListIn_nil ?_
   refine blkN ?_
   rw [map_fst_snoc] at hW
   exact ⟨_, ⟨A15, c16, trivial, by have h_ := hcc16; simp at h_ ⊢; omega, rfl⟩, (hW.pick [2, 3, 4] (by decide) rfl).pickG [0, 1, 2, 3, 4] rfl⟩
 · skip
   clear hA ac hW; intro D19 pre_ Hk_ w20 ac hS_ hJ_ hA hW
   obtain ⟨A3, c3, _, hcap, rfl⟩ := hJ_
   replace hW : Ws w No [Cel b1 #[Value.slice A3 (pre_.map Prod.fst).length c3] 27, rowR 54 4 enPair (Value.slice A3 (pre_.map Prod.fst).length c3) (pre_.map Prod.fst), DefR D19] [g5, Cel t #[Value.pointer (some ⟨p, 0, none⟩), Value.int .i64 T.most, Value.int .i64 T.dropped, Value.slice A T.l.length c] 61, Cel p #[Value.map (some b)] 91, mapR b Pair.v (fun a : Int => Value.int .i64 a) T.m, rowR 43 10 enFlag (Value.slice A T.l.length c) T.l] w20 := hW
   refine blkN ?_
   refine thenN ?_
   refine wpIn_seq ?_
   obtain ⟨ks_, hkp_, hkz_⟩ := hS_; have hkm_ : pre_.map Prod.fst = ks_ := by rw [hkz_, zip_fst]
   rw [hkm_] at hW
   have hkl_ : ks_.length ≤ 100000 := by have h_ := hkp_.length_eq; simp only [keys, List.length_map] at h_; omega
   have hkn_ : ks_.Nodup := hkp_.nodup_iff.2 hn; have hko_ : ∀ x ∈ ks_, x.ok = true := fun x hx => hok x ((hkp_.mem_iff).1 hx)
   refine wpIn_region_lit ?_
   refine st_rdF (v := Value.pointer (some ⟨t, 0, none⟩)) hA (by kernel_rfl) (by kernel_rfl) (by kernel_rfl) (by kernel_rfl) hW.cls (Rd.pure fun _ => by kernel_rfl) ?_; clear hA ac; intro ac hA
   refine st_rdF (v := Value.pointer (some ⟨t, 0, none⟩)) hA (by kernel_rfl) (by kernel_rfl) (by kernel_rfl) (by kernel_rfl) hW.cls (Rd.pure fun _ => by kernel_rfl) ?_; clear hA ac; intro ac hA
   refine st_rdF (v := Value.agg #[Value.pointer (some ⟨p, 0, none⟩), Value.int .i64 T.most, Value.int .i64 T.dropped, Value.slice A T.l.length c]) hA (by kernel_rfl) (by kernel_rfl) (by kernel_rfl) (by kernel_rfl) hW.cls (Rd.load (b := t) (i := 0) (by kernel_rfl) (fun _ hw => show _ = _ from (hw.1).getG 1 rfl) (by kernel_rfl)) ?_; clear hA ac; intro ac hA
   refine stF hA (by kernel_rfl) (by kernel_rfl) (by kernel_rfl) (by kernel_rfl) (RunsF.of (Runs.cells (fun b => Value.pointer (some ⟨b, 0, none⟩)) #[Value.pointer none, Value.int .i64 0, Value.int .i64 0, Value.slice none 0 0] 61 (fun _ => by kernel_rfl) hW ?_)); clear hA ac hW; intro b21 w22 hW hb21 hfw22 ac hA
   refine stF hA (by kernel_rfl) (by kernel_rfl) (by kernel_rfl) (by kernel_rfl) (RunsF.of (Runs.store (v := Value.agg #[Value.pointer (some ⟨p, 0, none⟩), Value.int .i64 T.most, Value.int .i64 T.dropped, Value.slice A T.l.length c]) (b := b21) (j := 0) (n := 4) (cs' := #[Value.pointer (some ⟨p, 0, none⟩), Value.int .i64 T.most, Value.int .i64 T.dropped, Value.slice A T.l.length c]) (H' := [Cel b21 #[Value.pointer (some ⟨p, 0, none⟩), Value.int .i64 T.most, Value.int .i64 T.dropped, Value.slice A T.l.length c] 61, Cel b1 #[Value.slice A3 ks_.length c3] 27, rowR 54 4 enPair (Value.slice A3 ks_.length c3) ks_, DefR D19]) (by kernel_rfl) (by kernel_rfl) (by kernel_rfl) (by kernel_rfl) (by kernel_rfl) hW 0 (by rfl) (Nat.le_of_ble_eq_true (by kernel_rfl)) (by kernel_rfl) (by rfl) ?_)); clear hA ac hW; intro w23 hW ac hA
   refine wpListIn_nil ?_
   refine thenN ?_
   refine wpIn_seq ?_
   refine wpIn_region_lit ?_
   refine st_rdF (v := Value.slice A3 ks_.length c3) hA (by kernel_rfl) (by kernel_rfl) (by kernel_rfl) (by kernel_rfl) hW.cls (Rd.load (b := b1) (i := 0) (by kernel_rfl) (fun _ hw => (hw.1).cel 1 rfl) (by kernel_rfl)) ?_; clear hA ac; intro ac hA
   refine stF hA (by kernel_rfl) (by kernel_rfl) (by kernel_rfl) (by kernel_rfl) (RunsF.of (Runs.call (fun _ => by kernel_rfl) (e_pnew A3 c3 ks_ w23 (rowR_at ((hW).get 2 rfl) elt_Pair.len) (own_cap ((hW).get 2 rfl)) (by first | omega | assumption) (by first | omega | assumption) (by first | omega | assumption)) ?_))
   rintro _ w24 ⟨n25, n26, rfl, hu_⟩; refine ⟨_, rfl, ?_⟩; replace hW := hW.made hu_; clear hA ac; intro ac hA
   refine st_rdF (v := Value.tuple #[Value.pointer (some ⟨n25, 0, none⟩), Value.int .i64 0]) hA (by kernel_rfl) (by kernel_rfl) (by kernel_rfl) (by kernel_rfl) hW.cls (Rd.pure fun _ => by kernel_rfl) ?_; clear hA ac; intro ac hA
   refine st_rdF (v := Value.pointer (some ⟨n25, 0, none⟩)) hA (by kernel_rfl) (by kernel_rfl) (by kernel_rfl) (by kernel_rfl) hW.cls (Rd.pure fun _ => by kernel_rfl) ?_; clear hA ac; intro ac hA
   refine st_rdF (v := Value.int .i64 0) hA (by kernel_rfl) (by kernel_rfl) (by kernel_rfl) (by kernel_rfl) hW.cls (Rd.pure fun _ => by kernel_rfl) ?_; clear hA ac; intro ac hA
   refine st_rdF (v := Value.pointer (some ⟨b21, 0, none⟩)) hA (by kernel_rfl) (by kernel_rfl) (by kernel_rfl) (by kernel_rfl) hW.cls (Rd.pure fun _ => by kernel_rfl) ?_; clear hA ac; intro ac hA
   refine st_rdF (v := Value.pointer (some ⟨b21, 0, none⟩)) hA (by kernel_rfl) (by kernel_rfl) (by kernel_rfl) (by kernel_rfl) hW.cls (Rd.pure fun _ => by kernel_rfl) ?_; clear hA ac; intro ac hA
   refine stF hA (by kernel_rfl) (by kernel_rfl) (by kernel_rfl) (by kernel_rfl) (RunsF.of (Runs.store (v := Value.pointer (some ⟨n25, 0, none⟩)) (b := b21) (j := 0) (n := 1) (cs' := #[Value.pointer (some ⟨n25, 0, none⟩), Value.int .i64 T.most, Value.int .i64 T.dropped, Value.slice A T.l.length c]) (H' := [PairsR n25 n26 (ones ks_), Cel b21 #[Value.pointer (some ⟨n25, 0, none⟩), Value.int .i64 T.most, Value.int .i64 T.dropped, Value.slice A T.l.length c] 61, Cel b1 #[Value.slice A3 ks_.length c3] 27, rowR 54 4 enPair (Value.slice A3 ks_.length c3) ks_, DefR D19]) (by kernel_rfl) (by kernel_rfl) (by kernel_rfl) (by kernel_rfl) (by kernel_rfl) hW 1 (by rfl) (Nat.le_of_ble_eq_true (by kernel_rfl)) (by kernel_rfl) (by rfl) ?_)); clear hA ac hW; intro w27 hW ac hA
   refine wpListIn_nil ?_
   refine thenN ?_
   refine wpIn_seq ?_
   refine wpIn_region_lit ?_
   refine st_rdF (v := Value.pointer (some ⟨t, 0, none⟩)) hA (by kernel_rfl) (by kernel_rfl) (by kernel_rfl) (by kernel_rfl) hW.cls (Rd.pure fun _ => by kernel_rfl) ?_; clear hA ac; intro ac hA
   refine st_rdF (v := Value.pointer (some ⟨t, 0, none⟩)) hA (by kernel_rfl) (by kernel_rfl) (by kernel_rfl) (by kernel_rfl) hW.cls (Rd.pure fun _ => by kernel_rfl) ?_; clear hA ac; intro ac hA
   refine st_rdF (v := Value.pointer (some ⟨t, 3, none⟩)) hA (by kernel_rfl) (by kernel_rfl) (by kernel_rfl) (by kernel_rfl) hW.cls (Rd.pure fun _ => by kernel_rfl) ?_; clear hA ac; intro ac hA
   refine st_rdF (v := Value.slice A T.l.length c) hA (by kernel_rfl) (by kernel_rfl) (by kernel_rfl) (by kernel_rfl) hW.cls (Rd.load (b := t) (i := 3) (by kernel_rfl) (fun _ hw => show _ = _ from (hw.1).getG 1 rfl) (by kernel_rfl)) ?_; clear hA ac; intro ac hA
   refine stF hA (by kernel_rfl) (by kernel_rfl) (by kernel_rfl) (by kernel_rfl) (RunsF.of (Runs.callRow (E := 43) (sz := 10) (en := enFlag) (l := T.l) (fun _ => by kernel_rfl) hW (e_clone_Flag A c T.l w27 (rowR_at (E := 43) ((hW).getG 4 rfl) elt_Flag.len) (own_cap (E := 43) (sz := 10) (en := enFlag) ((hW).getG 4 rfl)) (by first | omega | assumption)) ?_)); clear hA ac hW; intro A29 c30 w28 hW hcc30 hfw28 ac hA
   refine st_rdF (v := Value.pointer (some ⟨b21, 3, none⟩)) hA (by kernel_rfl) (by kernel_rfl) (by kernel_rfl) (by kernel_rfl) hW.cls (Rd.pure fun _ => by kernel_rfl) ?_; clear hA ac; intro ac hA
   refine stF hA (by kernel_rfl) (by kernel_rfl) (by kernel_rfl) (by kernel_rfl) (RunsF.of (Runs.store (v := Value.slice A29 T.l.length c30) (b := b21) (j := 3) (n := 1) (cs' := #[Value.pointer (some ⟨n25, 0, none⟩), Value.int .i64 T.most, Value.int .i64 T.dropped, Value.slice A29 T.l.length c30]) (H' := [rowR 43 10 enFlag (Value.slice A29 T.l.length c30) T.l, PairsR n25 n26 (ones ks_), Cel b21 #[Value.pointer (some ⟨n25, 0, none⟩), Value.int .i64 T.most, Value.int .i64 T.dropped, Value.slice A29 T.l.length c30] 61, Cel b1 #[Value.slice A3 ks_.length c3] 27, rowR 54 4 enPair (Value.slice A3 ks_.length c3) ks_, DefR D19]) (by kernel_rfl) (by kernel_rfl) (by kernel_rfl) (by kernel_rfl) (by kernel_rfl) hW 2 (by rfl) (Nat.le_of_ble_eq_true (by kernel_rfl)) (by kernel_rfl) (by rfl) ?_)); clear hA ac hW; intro w32 hW ac hA
   refine wpListIn_nil ?_
   refine thenN ?_
   refine wpIn_seq ?_
   refine wpIn_region_lit ?_
   refine st_rdF (v := Value.pointer (some ⟨b21, 0, none⟩)) hA (by kernel_rfl) (by kernel_rfl) (by kernel_rfl) (by kernel_rfl) hW.cls (Rd.pure fun _ => by kernel_rfl) ?_; clear hA ac; intro ac hA
   refine wpListIn_nil ?_
   refine thenN ?_
   refine wpIn_ret ?_
   refine retF (.inl rfl) hA ?_
   refine leaveD (H' := [rowR 43 10 enFlag (Value.slice A29 T.l.length c30) T.l, PairsR n25 n26 (ones ks_), Cel b21 #[Value.pointer (some ⟨n25, 0, none⟩), Value.int .i64 T.most, Value.int .i64 T.dropped, Value.slice A29 T.l.length c30] 61, Cel b1 #[Value.slice A3 ks_.length c3] 27, rowR 54 4 enPair (Value.slice A3 ks_.length c3) ks_]) hW 5 rfl rfl ?_; clear hW; intro w33 hW
   refine leave1 (v := Value.pointer (some ⟨b21, 0, none⟩)) (by rfl) (GotF.tmp hA (by kernel_rfl) (by kernel_rfl)) ?_
   clear hA
   have hW : Ws w No [Cel n25 #[Value.map (some n26)] 91, mapR n26 Pair.v (fun a : Int => Value.int .i64 a) (ones ks_), rowR 43 10 enFlag (Value.slice A29 T.l.length c30) T.l, Cel b21 #[Value.pointer (some ⟨n25, 0, none⟩), Value.int .i64 T.most, Value.int .i64 T.dropped, Value.slice A29 T.l.length c30] 61, Cel b1 #[Value.slice A3 ks_.length c3] 27, rowR 54 4 enPair (Value.slice A3 ks_.length c3) ks_] [g5, Cel t #[Value.pointer (some ⟨p, 0, none⟩), Value.int .i64 T.most, Value.int .i64 T.dropped, Value.slice A T.l.length c] 61, Cel p #[Value.map (some b)] 91, mapR b Pair.v (fun a : Int => Value.int .i64 a) T.m, rowR 43 10 enFlag (Value.slice A T.l.length c) T.l] w33 := Ws.unpack (hW.pick [1, 0, 2, 3, 4] (by decide) rfl)
   exact ⟨b21, n25, n26, A29, c30, ks_, rfl, by exact hkp_, (Ws.pack (K := []) (show Ws w No ([Cel b21 #[Value.pointer (some ⟨n25, 0, none⟩), Value.int .i64 T.most, Value.int .i64 T.dropped, Value.slice A29 T.l.length c30] 61, Cel n25 #[Value.map (some n26)] 91, mapR n26 Pair.v (fun a : Int => Value.int .i64 a) (ones ks_), rowR 43 10 enFlag (Value.slice A29 T.l.length c30) T.l] ++ []) [g5, Cel t #[Value.pointer (some ⟨p, 0, none⟩), Value.int .i64 T.most, Value.int .i64 T.dropped, Value.slice A T.l.length c] 61, Cel p #[Value.map (some b)] 91, mapR b Pair.v (fun a : Int => Value.int .i64 a) T.m, rowR 43 10 enFlag (Value.slice A T.l.length c) T.l] _ from hW.pick [3, 0, 1, 2] (by decide) rfl)).madeDone 0 rfl⟩
 · skip
   clear hA ac hW; intro D34 c_ pre_ Hk_ w35 ac hJ_ hA hW
   exact hJ_.elim

end Go.Proofs.Ytgkhaoogfpnbbaa.L
