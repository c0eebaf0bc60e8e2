/- Contracts, walked by program over the engine's laws. -/
import Derived.Test.YtcokpdlmahlpnaaProg
import Derived.Test.YtcokpdlmahlpnaaT24
namespace Go.Proofs.Ytcokpdlmahlpnaa.L
open Go.RowKit

theorem Ws.madeFromAt {w0 w w' : World} {S : Nat → Prop} {H G G2 : List Res} (h0 : Ws w0 S H G w) {r : Res} (h : Ws w0 S (r :: H) G2 w') {g : Res} {Gs : List Res} (hg : g.from_ Gs w w') (hs : ∀ x ∈ Gs, ∀ b ∈ x.fp, ∃ y ∈ G, b ∈ y.fp) (hd : ∀ b ∈ r.fp, b ∉ g.fp) : Ws w0 S (r :: H) (g :: G2) w' :=
  h.addG g hg.1 (fun b hb => (hg.2 b hb).1) (fun q hq b hb hb' => by
    rcases List.mem_cons.1 hq with rfl | hq
    · exact hd b hb hb'
    · rcases (hg.2 b hb').2 with ⟨x, hx, hxb⟩ | h1
      · obtain ⟨y, hy, hyb⟩ := hs x hx b hxb
        exact h0.gd y hy q hq b hb hyb
      · have := h0.lt q hq b hb; omega)
set_option maxRecDepth 100000 in
theorem e_played06 (A_l : Option Addr) (c_l : Nat) (l : List Cell6) (w : World) (hr_l : RowAt w A_l 2 enCell6 l) (hc_l : l.length ≤ c_l) (hl : l.length ≤ 100) (hwf : ∀ x ∈ l, (0 ≤ x.addr ∧ x.addr ≤ 4294967295) ∧ (0 ≤ x.word ∧ x.word ≤ 4294967295)) : Calls Try.prog 15 #[Value.slice A_l l.length c_l] w (fun e w' => ∃ np : Nat, ∃ nb : Nat, ∃ V' : VT6, ∃ L' : List Cell6, ∃ (A_o : Option Addr) (c_o : Nat), e = .returned (Value.tuple #[Value.pointer (some ⟨np, 0, none⟩), Value.agg #[Value.slice A_o (L').length c_o]]) ∧ (Rel06 l.length L' V') ∧ (L').length ≤ c_o ∧ (roR A_o 2 enCell6 L').from_ [roR A_l 2 enCell6 l] w w' ∧ (∀ x_ ∈ (MemR np nb V').fp, x_ ∉ (roR A_o 2 enCell6 L').fp) ∧ Made (MemR np nb V') w w') := by
 have _hu := hc_l; have _hv := hr_l; clear _hu _hv
 have _hu := hl; clear _hu
 have _hu := hwf; clear _hu
 refine enter_E 36 Try.func15 rfl rfl (by kernel_rfl) (L := [(0, Value.slice A_l l.length c_l)]) (by kernel_rfl) ?_
 intro ac hA
 have hW := Ws.start w No
 have hW := hW.arg hr_l
 refine wp_seq ?_
 refine wp_region_lit ?_
 refine st_rd (v := Value.pointer none) hA (by kernel_rfl) (by kernel_rfl) (by kernel_rfl) hW.cls (Rd.pure fun _ => by kernel_rfl) ?_; clear hA ac; intro ac hA
 refine st hA (by kernel_rfl) (by kernel_rfl) (by kernel_rfl) (Runs.cells (fun b => Value.pointer (some ⟨b, 0, none⟩)) #[Value.slice none 0 0] 38 (fun _ => by kernel_rfl) hW ?_); clear hA ac hW; intro b1 w2 hW hb1 hfw2 ac hA
 refine wpList_nil ?_
 refine thenN ?_
 refine wp_seq ?_
 refine wp_region_lit ?_
 refine st hA (by kernel_rfl) (by kernel_rfl) (by kernel_rfl) (Runs.call (fun _ => by kernel_rfl) (e_mnew w2) ?_)
 rintro _ w3 ⟨n4, n5, rfl, hu_⟩; refine ⟨_, rfl, ?_⟩; replace hW := hW.made hu_; clear hA ac; intro ac hA
 have hq6 : Rel06 0 ([] : List Cell6) ([] : List (Int × Nat × (Nat → Int))) := Rel06.start
 refine st_rd (v := Value.agg #[Value.slice none 0 0]) hA (by kernel_rfl) (by kernel_rfl) (by kernel_rfl) hW.cls (Rd.pure fun _ => by kernel_rfl) ?_; clear hA ac; intro ac hA
 refine st hA (by kernel_rfl) (by kernel_rfl) (by kernel_rfl) (Runs.cells (fun b => Value.pointer (some ⟨b, 0, none⟩)) #[Value.slice none 0 0] 38 (fun _ => by kernel_rfl) hW ?_); clear hA ac hW; intro b7 w8 hW hb7 hfw8 ac hA
 refine st_rd (v := Value.pointer (some ⟨n4, 0, none⟩)) hA (by kernel_rfl) (by kernel_rfl) (by kernel_rfl) hW.cls (Rd.pure fun _ => by kernel_rfl) ?_; clear hA ac; intro ac hA
 refine st hA (by kernel_rfl) (by kernel_rfl) (by kernel_rfl) (Runs.store (v := Value.agg #[Value.slice none 0 0]) (b := b7) (j := 0) (n := 1) (cs' := #[Value.slice none 0 0]) (H' := [Cel b7 #[Value.slice none 0 0] 38, MemR n4 n5 ([] : List (Int × Nat × (Nat → Int))), Cel b1 #[Value.slice none 0 0] 38]) (by kernel_rfl) (by kernel_rfl) (by kernel_rfl) (by kernel_rfl) (by kernel_rfl) hW 0 (by rfl) (Nat.le_of_ble_eq_true (by kernel_rfl)) (by kernel_rfl) (by rfl) ?_); clear hA ac hW; intro w9 hW ac hA
 refine wpList_nil ?_
 refine thenN ?_
 refine wp_seq ?_
 refine wp_seq ?_
 refine wp_region_lit ?_
 refine st_rd (v := Value.int .i64 0) hA (by kernel_rfl) (by kernel_rfl) (by kernel_rfl) hW.cls (Rd.pure fun _ => by kernel_rfl) ?_; clear hA ac; intro ac hA
 refine wpList_nil ?_
 refine thenN ?_
 refine wp_block ?_
 have hW := hW.addG (roR none 2 enCell6 ([] : List Cell6)) (.inl rfl) (by simp [roR]) (by simp [roR])
 have hsc0 : Res.src (roR none 2 enCell6 ([] : List Cell6)) [roR A_l 2 enCell6 l] w := src_nil
 refine wp_loop_m (fun m_ ac_ wl_ => ∃ k : Nat, ∃ V : VT6, ∃ L : List Cell6, ∃ AL : Option Addr, ∃ cc : Nat, m_ = l.length - k ∧ (k ≤ l.length) ∧ (Rel06 k L V) ∧ (L.length ≤ cc) ∧ (Res.src (roR AL 2 enCell6 L) [roR A_l 2 enCell6 l] w) ∧ Fm 36 [] [(0, Value.slice A_l l.length c_l), (2, Value.pointer none), (3, Value.pointer (some ⟨b1, 0, none⟩)), (4, Value.pointer (some ⟨n4, 0, none⟩)), (5, Value.pointer (some ⟨b7, 0, none⟩)), (6, Value.int .i64 ((k : Nat) : Int))] ac_ ∧ Ws w No [Cel b7 #[Value.slice AL L.length cc] 38, MemR n4 n5 V, Cel b1 #[Value.slice none 0 0] 38] [roR AL 2 enCell6 L, roR A_l 2 enCell6 l] wl_) _ ⟨0, ([] : List (Int × Nat × (Nat → Int))), ([] : List Cell6), none, 0, rfl, by omega, by exact Rel06.start, by simp, by exact src_nil, hA.sub ⟨⟨by kernel_rfl, by kernel_rfl⟩, ⟨by kernel_rfl, by kernel_rfl⟩, ⟨by kernel_rfl, by kernel_rfl⟩, ⟨by kernel_rfl, by kernel_rfl⟩, ⟨by kernel_rfl, by kernel_rfl⟩, ⟨by kernel_rfl, by kernel_rfl⟩, trivial⟩, (hW.pick [0, 1, 2] (by decide) rfl).pickG [0, 1] rfl⟩ ?_
 clear hA ac hW; rintro m_ ac w10 ⟨k, V, L, AL, cc, rfl, hk, hR_, hcc, hscL, hA, hW⟩
 have hrl_ := hR_.llen; have hrv_ := hR_.len
 refine wp_seq ?_
 refine wp_seq ?_
 refine wp_region_lit ?_
 refine st_rd (v := Value.int .i64 ((k : Nat) : Int)) hA (by kernel_rfl) (by kernel_rfl) (by kernel_rfl) hW.cls (Rd.pure fun _ => by kernel_rfl) ?_; clear hA ac; intro ac hA
 refine st_rd (v := Value.slice A_l l.length c_l) hA (by kernel_rfl) (by kernel_rfl) (by kernel_rfl) hW.cls (Rd.pure fun _ => by kernel_rfl) ?_; clear hA ac; intro ac hA
 refine st_rd (v := Value.int .i64 ((l.length : Nat) : Int)) hA (by kernel_rfl) (by kernel_rfl) (by kernel_rfl) hW.cls (Rd.pure fun _ => by kernel_rfl) ?_; clear hA ac; intro ac hA
 refine st_rd (v := Value.bool (decide ((((k : Nat) : Int) : Int) < (((l.length : Nat) : Int) : Int)))) hA (by kernel_rfl) (by kernel_rfl) (by kernel_rfl) hW.cls (Rd.pure fun _ => by kernel_rfl) ?_; clear hA ac; intro ac hA
 refine wpList_nil ?_
 refine thenN ?_
 refine wp_cond_split (t := decide ((((k : Nat) : Int) : Int) < (((l.length : Nat) : Int) : Int))) (hA.eval (by kernel_rfl)) (fun h11 => ?_) (fun h11 => ?_)
 · skip
   have h11 := of_decide_eq_true h11
   first
   | (exfalso; clear hA hW; omega)
   | (
     refine wp_skip ?_
     refine thenN ?_
     refine wp_seq ?_
     refine wp_block ?_
     refine wp_seq ?_
     refine wp_region_lit ?_
     refine st_rd (v := Value.pointer (some ⟨n4, 0, none⟩)) hA (by kernel_rfl) (by kernel_rfl) (by kernel_rfl) hW.cls (Rd.pure fun _ => by kernel_rfl) ?_; clear hA ac; intro ac hA
     refine st_rd (v := Value.slice A_l l.length c_l) hA (by kernel_rfl) (by kernel_rfl) (by kernel_rfl) hW.cls (Rd.pure fun _ => by kernel_rfl) ?_; clear hA ac; intro ac hA
     refine st_rd (v := Value.int .i64 ((k : Nat) : Int)) hA (by kernel_rfl) (by kernel_rfl) (by kernel_rfl) hW.cls (Rd.pure fun _ => by kernel_rfl) ?_; clear hA ac; intro ac hA
     obtain ⟨y12, hy12⟩ : ∃ y, l[k]? = some y := ⟨_, List.getElem?_eq_getElem (by first | omega | (simp; done) | (simp; omega))⟩
     obtain ⟨b13, o14, rfl, hbb13⟩ := row_some ((hW).getG 1 rfl) hy12
     refine st_rd (v := Value.pointer (some ⟨b13, o14 + k * 2, none⟩)) hA (by kernel_rfl) (by kernel_rfl) (by kernel_rfl) hW.cls (Rd.indexAddr (e := 30) (sz := 2) (b := b13) (off := o14) (n := l.length) (c := c_l) (k := k) (by kernel_rfl) (by kernel_rfl) (by first | omega | (simp; done) | (simp; omega)) (fun _ => by kernel_rfl) (fun _ => by kernel_rfl)) ?_; clear hA ac; intro ac hA
     refine st_rd (v := Value.agg #[Value.int .u32 y12.addr, Value.int .u32 y12.word]) hA (by kernel_rfl) (by kernel_rfl) (by kernel_rfl) hW.cls (Rd.loadRow (b := b13) (i := o14 + k * 2) (xs := [Value.int .u32 y12.addr, Value.int .u32 y12.word]) (by kernel_rfl) (fun _ hw => row_ld ((hw.1).getG 1 rfl) hy12 (Fr.refl No _) (fun h => h) 0 2 (by kernel_rfl)) (by kernel_rfl)) ?_; clear hA ac; intro ac hA
     refine st hA (by kernel_rfl) (by kernel_rfl) (by kernel_rfl) (Runs.cells (fun b => Value.slice (some ⟨b, 0, none⟩) 1 1) #[Value.int .u32 y12.addr, Value.int .u32 y12.word] 30 (fun _ => by kernel_rfl) hW ?_); clear hA ac hW; intro b15 w16 hW hb15 hfw16 ac hA
     have hsro_b15 : Res.src (roR (some ⟨b15, 0, none⟩) 2 enCell6 ([y12] : List Cell6)) [roR (some ⟨b13, o14, none⟩) 2 enCell6 l] w := fun b_ hb_ => .inr ((hW.may _ (List.mem_of_getElem? (i := 0) rfl) b_ (cel_fp b_ hb_)).resolve_left (fun h_ => h_))
     have hW := hW.share 0 rfl (H' := [Cel b7 #[Value.slice AL L.length cc] 38, MemR n4 n5 V, Cel b1 #[Value.slice none 0 0] 38]) rfl
     have hW := hW.nestG (roR (some ⟨b15, 0, none⟩) 2 enCell6 ([y12] : List Cell6)) (rowAt_cel (show _ = _ from hW.getG 0 rfl) ([y12] : List Cell6) (by rfl) elt_Cell6.len) (fun _ hb_ => ⟨_, List.mem_of_getElem? (i := 0) rfl, cel_fp _ hb_⟩)
     refine st hA (by kernel_rfl) (by kernel_rfl) (by kernel_rfl) (Runs.call (fun _ => by kernel_rfl) (e_mstore n4 n5 V (some ⟨b15, 0, none⟩) 1 ([y12] : List Cell6) w16 ((hW).get 1 rfl) ((hW).lt _ (List.mem_of_getElem? (i := 1) rfl)) ((hW).getG 0 rfl) (by first | assumption | omega | (simp; omega) | simp) ((hW).gd _ (List.mem_of_getElem? (i := 0) rfl) _ (List.mem_of_getElem? (i := 1) rfl)) (by first | omega | assumption | (simp; done) | (intro x hx; simp only [List.mem_singleton] at hx; subst hx; exact hwf _ (List.mem_of_getElem? (by assumption))) | exact (hwf _ (List.mem_of_getElem? (by assumption))).1 | exact (hwf _ (List.mem_of_getElem? (by assumption))).2) (by first | omega | assumption | (simp; done) | (intro x hx; simp only [List.mem_singleton] at hx; subst hx; exact hwf _ (List.mem_of_getElem? (by assumption))) | exact (hwf _ (List.mem_of_getElem? (by assumption))).1 | exact (hwf _ (List.mem_of_getElem? (by assumption))).2)) ?_)
     rintro _ w17 ⟨u18, rfl, hw17_hS, hu_⟩; refine ⟨_, rfl, ?_⟩; replace hW := hW.upd (H' := [Cel b7 #[Value.slice AL L.length cc] 38, MemR n4 n5 u18, Cel b1 #[Value.slice none 0 0] 38]) 1 rfl hu_ rfl; clear hA ac; intro ac hA
     have hq19 : Rel06 (k + (([y12] : List Cell6)).length) (List.foldl (fun L c => insM L c.addr c.word) L ([y12] : List Cell6)) u18 := hR_.storeR hw17_hS (by first | assumption | (intro x hx; simp only [List.mem_singleton] at hx; subst hx; exact hwf _ (List.mem_of_getElem? (by assumption))) | (intro x hx; simp only [List.mem_cons, List.not_mem_nil, or_false] at hx; (repeat' (rcases hx with rfl | hx)) <;> first | (subst hx; simp; done) | (simp; done) | (subst hx; assumption)))
     refine wpList_nil ?_
     refine thenN ?_
     refine wp_cut (fun ac_ wl_ => ∃ Aor6_11 : Option Addr, ∃ cor6_11 : Nat, ∃ g0r6_11 : List Cell6, ((g0r6_11).length ≤ cor6_11) ∧ (g0r6_11 = insM L (y12.addr) (y12.word)) ∧ (Res.src (roR Aor6_11 2 enCell6 g0r6_11) [roR (some ⟨b13, o14, none⟩) 2 enCell6 l] w) ∧ Fm 36 [] [(0, Value.slice (some ⟨b13, o14, none⟩) l.length c_l), (2, Value.pointer none), (3, Value.pointer (some ⟨b1, 0, none⟩)), (4, Value.pointer (some ⟨n4, 0, none⟩)), (5, Value.pointer (some ⟨b7, 0, none⟩)), (6, Value.int .i64 ((k : Nat) : Int)), (9, Value.int .i64 ((k : Nat) : Int)), (10, Value.slice (some ⟨b13, o14, none⟩) l.length c_l), (11, Value.int .i64 ((l.length : Nat) : Int)), (12, Value.bool (decide ((((k : Nat) : Int) : Int) < (((l.length : Nat) : Int) : Int)))), (15, Value.pointer (some ⟨n4, 0, none⟩)), (16, Value.slice (some ⟨b13, o14, none⟩) l.length c_l), (17, Value.int .i64 ((k : Nat) : Int)), (18, Value.pointer (some ⟨b13, o14 + k * 2, none⟩)), (19, Value.agg #[Value.int .u32 y12.addr, Value.int .u32 y12.word]), (20, Value.slice (some ⟨b15, 0, none⟩) 1 1)] ac_ ∧ Ws w No [Cel b7 #[Value.slice Aor6_11 (g0r6_11).length cor6_11] 38, MemR n4 n5 u18, Cel b1 #[Value.slice none 0 0] 38] [roR Aor6_11 2 enCell6 g0r6_11, roR (some ⟨b15, 0, none⟩) 2 enCell6 ([y12] : List Cell6), Cel b15 #[Value.int .u32 y12.addr, Value.int .u32 y12.word] 30, roR AL 2 enCell6 L, roR (some ⟨b13, o14, none⟩) 2 enCell6 l] wl_) ?_ ?_
     · refine sr_region (m := 13) (C := Ws w No [Cel b7 #[Value.slice AL L.length cc] 38, MemR n4 n5 u18, Cel b1 #[Value.slice none 0 0] 38] [roR (some ⟨b15, 0, none⟩) 2 enCell6 ([y12] : List Cell6), Cel b15 #[Value.int .u32 y12.addr, Value.int .u32 y12.word] 30, roR AL 2 enCell6 L, roR (some ⟨b13, o14, none⟩) 2 enCell6 l]) (fun i => [0, 5, 10].contains i) (fun i => [0, 5, 10].contains i) (fun i => [1, 2, 3, 4, 6, 7, 8, 9].contains i) (by kernel_rfl) (by kernel_rfl) (by kernel_rfl) (by kernel_rfl) hW ?_; clear hW; intro w20 hW hfw20 hR; have hC : Ws w No [Cel b7 #[Value.slice AL L.length cc] 38, MemR n4 n5 u18, Cel b1 #[Value.slice none 0 0] 38] [roR (some ⟨b15, 0, none⟩) 2 enCell6 ([y12] : List Cell6), Cel b15 #[Value.int .u32 y12.addr, Value.int .u32 y12.word] 30, roR AL 2 enCell6 L, roR (some ⟨b13, o14, none⟩) 2 enCell6 l] w20 := hW.pick [0, 1, 2] (by decide) rfl
       refine sr_take (i := 0) (v := Value.agg #[Value.slice AL L.length cc]) hR (by kernel_rfl) rfl (by kernel_rfl) (by kernel_rfl) (by kernel_rfl) (fun _ _ _ h => h.elim) hA (by kernel_rfl) (by kernel_rfl) (by kernel_rfl) hC (Rd.load (b := b7) (i := 0) (by kernel_rfl) (fun _ hw => (hw).cel 0 rfl) (by kernel_rfl)) ?_; clear hA ac; intro ac hA
       refine sr_pure (i := 1) (v := Value.slice (some ⟨b13, o14, none⟩) l.length c_l) hR (by kernel_rfl) rfl (by kernel_rfl) (by kernel_rfl) (fun _ _ _ h => h.elim) hA (by kernel_rfl) (by kernel_rfl) (by kernel_rfl) (Rd.pure fun _ => by kernel_rfl) ?_; clear hA ac; intro ac hA
       refine sr_pure (i := 2) (v := Value.int .i64 ((k : Nat) : Int)) hR (by kernel_rfl) rfl (by kernel_rfl) (by kernel_rfl) (fun _ _ _ h => h.elim) hA (by kernel_rfl) (by kernel_rfl) (by kernel_rfl) (Rd.pure fun _ => by kernel_rfl) ?_; clear hA ac; intro ac hA
       refine sr_pure (i := 3) (v := Value.pointer (some ⟨b13, o14 + k * 2, none⟩)) hR (by kernel_rfl) rfl (by kernel_rfl) (by kernel_rfl) (fun _ _ _ h => h.elim) hA (by kernel_rfl) (by kernel_rfl) (by kernel_rfl) (Rd.indexAddr (e := 30) (sz := 2) (b := b13) (off := o14) (n := l.length) (c := c_l) (k := k) (by kernel_rfl) (by kernel_rfl) (by first | omega | (simp; done) | (simp; omega)) (fun _ => by kernel_rfl) (fun _ => by kernel_rfl)) ?_; clear hA ac; intro ac hA
       refine sr_pure (i := 4) (v := Value.pointer (some ⟨b13, o14 + k * 2, none⟩)) hR (by kernel_rfl) rfl (by kernel_rfl) (by kernel_rfl) (fun _ _ _ h => h.elim) hA (by kernel_rfl) (by kernel_rfl) (by kernel_rfl) (Rd.pure fun _ => by kernel_rfl) ?_; clear hA ac; intro ac hA
       refine sr_take (i := 5) (v := Value.int .u32 y12.addr) hR (by kernel_rfl) rfl (by kernel_rfl) (by kernel_rfl) (by kernel_rfl) (fun _ _ _ h => h.elim) hA (by kernel_rfl) (by kernel_rfl) (by kernel_rfl) hC (Rd.loadRow (b := b13) (i := o14 + k * 2) (xs := [Value.int .u32 y12.addr]) (by kernel_rfl) (fun _ hw => row_ld ((hw).getG 3 rfl) hy12 (Fr.refl No _) (fun h => h) 0 1 (by kernel_rfl)) (by kernel_rfl)) ?_; clear hA ac; intro ac hA
       refine sr_pure (i := 6) (v := Value.slice (some ⟨b13, o14, none⟩) l.length c_l) hR (by kernel_rfl) rfl (by kernel_rfl) (by kernel_rfl) (fun _ _ _ h => h.elim) hA (by kernel_rfl) (by kernel_rfl) (by kernel_rfl) (Rd.pure fun _ => by kernel_rfl) ?_; clear hA ac; intro ac hA
       refine sr_pure (i := 7) (v := Value.int .i64 ((k : Nat) : Int)) hR (by kernel_rfl) rfl (by kernel_rfl) (by kernel_rfl) (fun _ _ _ h => h.elim) hA (by kernel_rfl) (by kernel_rfl) (by kernel_rfl) (Rd.pure fun _ => by kernel_rfl) ?_; clear hA ac; intro ac hA
       refine sr_pure (i := 8) (v := Value.pointer (some ⟨b13, o14 + k * 2, none⟩)) hR (by kernel_rfl) rfl (by kernel_rfl) (by kernel_rfl) (fun _ _ _ h => h.elim) hA (by kernel_rfl) (by kernel_rfl) (by kernel_rfl) (Rd.indexAddr (e := 30) (sz := 2) (b := b13) (off := o14) (n := l.length) (c := c_l) (k := k) (by kernel_rfl) (by kernel_rfl) (by first | omega | (simp; done) | (simp; omega)) (fun _ => by kernel_rfl) (fun _ => by kernel_rfl)) ?_; clear hA ac; intro ac hA
       refine sr_pure (i := 9) (v := Value.pointer (some ⟨b13, o14 + k * 2 + 1, none⟩)) hR (by kernel_rfl) rfl (by kernel_rfl) (by kernel_rfl) (fun _ _ _ h => h.elim) hA (by kernel_rfl) (by kernel_rfl) (by kernel_rfl) (Rd.pure fun _ => by kernel_rfl) ?_; clear hA ac; intro ac hA
       refine sr_take (i := 10) (v := Value.int .u32 y12.word) hR (by kernel_rfl) rfl (by kernel_rfl) (by kernel_rfl) (by kernel_rfl) (fun _ _ _ h => h.elim) hA (by kernel_rfl) (by kernel_rfl) (by kernel_rfl) hC (Rd.loadRow (b := b13) (i := o14 + k * 2 + 1) (xs := [Value.int .u32 y12.word]) (by kernel_rfl) (fun _ hw => row_ld ((hw).getG 3 rfl) hy12 (Fr.refl No _) (fun h => h) 1 1 (by kernel_rfl)) (by kernel_rfl)) ?_; clear hA ac; intro ac hA
       refine sr_one (i := 11) (by kernel_rfl) (sr_do rfl hA (by kernel_rfl) (by kernel_rfl) (by kernel_rfl) (Runs.call (fun _ => by kernel_rfl) (e_rstore AL cc L (y12.addr) (y12.word) w20 ((hW).getG 2 rfl) (by first | assumption | omega | (simp; omega) | simp) (by first | omega | assumption | (simp; done) | (intro x hx; simp only [List.mem_singleton] at hx; subst hx; exact hwf _ (List.mem_of_getElem? (by assumption))) | exact (hwf _ (List.mem_of_getElem? (by assumption))).1 | exact (hwf _ (List.mem_of_getElem? (by assumption))).2)) ?_))
       rintro _ w21 ⟨g0r6_11, Aor6_11, cor6_11, rfl, hr6_11_hS, hccor6_11, hfcor6_11, hfw21⟩; refine ⟨_, rfl, ?_⟩; have hW0 := hW; have hW := hW0.call hfw21
       have hW := hW0.addFromAt hW hfcor6_11 (in_cons (in_at 2 rfl) in_nil)
       have hscor6_11 : Res.src (roR Aor6_11 2 enCell6 g0r6_11) [roR (some ⟨b13, o14, none⟩) 2 enCell6 l] w := src_call hfcor6_11 (srcs_cons hscL srcs_nil) hW0.fr.size
       clear hW0 hA ac; intro ac hA
       refine ⟨⟨fun h => absurd h (by decide), fun h => absurd h (by decide)⟩, ?_⟩
       refine sr_one (i := 12) (by kernel_rfl) (sr_do rfl hA (by kernel_rfl) (by kernel_rfl) (by kernel_rfl) (Runs.store (v := Value.agg #[Value.slice Aor6_11 (g0r6_11).length cor6_11]) (b := b7) (j := 0) (n := 1) (cs' := #[Value.slice Aor6_11 (g0r6_11).length cor6_11]) (H' := [Cel b7 #[Value.slice Aor6_11 (g0r6_11).length cor6_11] 38, MemR n4 n5 u18, Cel b1 #[Value.slice none 0 0] 38]) (by kernel_rfl) (by kernel_rfl) (by kernel_rfl) (by kernel_rfl) (by kernel_rfl) hW 0 (by rfl) (Nat.le_of_ble_eq_true (by kernel_rfl)) (by kernel_rfl) (by rfl) ?_)); clear hA ac hW; intro w22 hW ac hA
       refine ⟨⟨fun h => absurd h (by decide), fun h => absurd h (by decide)⟩, ?_⟩
       refine sr_done (by kernel_rfl) ?_ _
       exact ⟨Aor6_11, cor6_11, g0r6_11, hccor6_11, hr6_11_hS, hscor6_11, hA.sub ⟨⟨by kernel_rfl, by kernel_rfl⟩, ⟨by kernel_rfl, by kernel_rfl⟩, ⟨by kernel_rfl, by kernel_rfl⟩, ⟨by kernel_rfl, by kernel_rfl⟩, ⟨by kernel_rfl, by kernel_rfl⟩, ⟨by kernel_rfl, by kernel_rfl⟩, ⟨by kernel_rfl, by kernel_rfl⟩, ⟨by kernel_rfl, by kernel_rfl⟩, ⟨by kernel_rfl, by kernel_rfl⟩, ⟨by kernel_rfl, by kernel_rfl⟩, ⟨by kernel_rfl, by kernel_rfl⟩, ⟨by kernel_rfl, by kernel_rfl⟩, ⟨by kernel_rfl, by kernel_rfl⟩, ⟨by kernel_rfl, by kernel_rfl⟩, ⟨by kernel_rfl, by kernel_rfl⟩, ⟨by kernel_rfl, by kernel_rfl⟩, trivial⟩, (hW.pick [0, 1, 2] (by decide) rfl).pickG [0, 1, 2, 3, 4] rfl⟩
     clear hA ac hW; rintro ac w23 ⟨Aor6_11, cor6_11, g0r6_11, hccor6_11, hr6_11_hS, hscor6_11, hA, hW⟩
     refine blkN ?_
     refine thenN ?_
     refine wp_region_lit ?_
     refine st_rd (v := Value.int .i64 ((k : Nat) : Int)) hA (by kernel_rfl) (by kernel_rfl) (by kernel_rfl) hW.cls (Rd.pure fun _ => by kernel_rfl) ?_; clear hA ac; intro ac hA
     refine st_rd (v := Value.int .i64 ((k + 1 : Nat) : Int)) hA (by kernel_rfl) (by kernel_rfl) (by kernel_rfl) hW.cls (Rd.pureE (v0 := Value.int .i64 (IntKind.i64.wrap ((((k : Nat) : Int) : Int) + 1))) (fun _ => by kernel_rfl) (congrArg (Value.int .i64) ((w_i64 (x := (((k : Nat) : Int) : Int) + 1) (by omega) (by omega)).trans (by omega)))) ?_; clear hA ac; intro ac hA
     refine st_rd (v := Value.int .i64 ((k + 1 : Nat) : Int)) hA (by kernel_rfl) (by kernel_rfl) (by kernel_rfl) hW.cls (Rd.pure fun _ => by kernel_rfl) ?_; clear hA ac; intro ac hA
     refine wpList_nil ?_
     refine thenN ?_
     exact ⟨l.length - (k + 1), by omega, k + 1, u18, g0r6_11, Aor6_11, cor6_11, rfl, by omega, by rw [hr6_11_hS]; exact hq19, by exact (by first | assumption | omega | (simp; omega) | simp), by exact hscor6_11, hA.sub ⟨⟨by kernel_rfl, by kernel_rfl⟩, ⟨by kernel_rfl, by kernel_rfl⟩, ⟨by kernel_rfl, by kernel_rfl⟩, ⟨by kernel_rfl, by kernel_rfl⟩, ⟨by kernel_rfl, by kernel_rfl⟩, ⟨by kernel_rfl, by kernel_rfl⟩, trivial⟩, (hW.pick [0, 1, 2] (by decide) rfl).pickG [0, 4] rfl⟩)
 · skip
   have h11 := of_decide_eq_false h11
   first
   | (exfalso; clear hA hW; omega)
   | (
     refine wp_exit ?_
     refine thenX ?_
     refine thenX ?_
     refine blkX ?_
     refine thenN ?_
     refine wp_seq ?_
     refine wp_cut (fun ac_ wl_ => Fm 36 [] [(0, Value.slice A_l l.length c_l), (2, Value.pointer (some ⟨n4, 0, none⟩)), (3, Value.pointer (some ⟨b1, 0, none⟩)), (4, Value.pointer (some ⟨n4, 0, none⟩)), (5, Value.pointer (some ⟨b7, 0, none⟩)), (6, Value.int .i64 ((k : Nat) : Int)), (9, Value.int .i64 ((k : Nat) : Int)), (10, Value.slice A_l l.length c_l), (11, Value.int .i64 ((l.length : Nat) : Int)), (12, Value.bool (decide ((((k : Nat) : Int) : Int) < (((l.length : Nat) : Int) : Int))))] ac_ ∧ Ws w No [Cel b7 #[Value.slice AL L.length cc] 38, MemR n4 n5 V, Cel b1 #[Value.slice AL L.length cc] 38] [roR AL 2 enCell6 L, roR A_l 2 enCell6 l] wl_) ?_ ?_
     · refine sr_region (m := 4) (C := Ws w No [Cel b7 #[Value.slice AL L.length cc] 38, MemR n4 n5 V, Cel b1 #[Value.slice none 0 0] 38] [roR AL 2 enCell6 L, roR A_l 2 enCell6 l]) (fun i => [1].contains i) (fun i => [1].contains i) (fun i => [0, 2].contains i) (by kernel_rfl) (by kernel_rfl) (by kernel_rfl) (by kernel_rfl) hW ?_; clear hW; intro w24 hW hfw24 hR; have hC : Ws w No [Cel b7 #[Value.slice AL L.length cc] 38, MemR n4 n5 V, Cel b1 #[Value.slice none 0 0] 38] [roR AL 2 enCell6 L, roR A_l 2 enCell6 l] w24 := hW.pick [0, 1, 2] (by decide) rfl
       refine sr_pure (i := 0) (v := Value.pointer (some ⟨n4, 0, none⟩)) hR (by kernel_rfl) rfl (by kernel_rfl) (by kernel_rfl) (fun _ _ _ h => h.elim) hA (by kernel_rfl) (by kernel_rfl) (by kernel_rfl) (Rd.pure fun _ => by kernel_rfl) ?_; clear hA ac; intro ac hA
       refine sr_take (i := 1) (v := Value.agg #[Value.slice AL L.length cc]) hR (by kernel_rfl) rfl (by kernel_rfl) (by kernel_rfl) (by kernel_rfl) (fun _ _ _ h => h.elim) hA (by kernel_rfl) (by kernel_rfl) (by kernel_rfl) hC (Rd.load (b := b7) (i := 0) (by kernel_rfl) (fun _ hw => (hw).cel 0 rfl) (by kernel_rfl)) ?_; clear hA ac; intro ac hA
       refine sr_pure (i := 2) (v := Value.pointer (some ⟨n4, 0, none⟩)) hR (by kernel_rfl) rfl (by kernel_rfl) (by kernel_rfl) (fun _ _ _ h => h.elim) hA (by kernel_rfl) (by kernel_rfl) (by kernel_rfl) (Rd.pure fun _ => by kernel_rfl) ?_; clear hA ac; intro ac hA
       refine sr_one (i := 3) (by kernel_rfl) (sr_do rfl hA (by kernel_rfl) (by kernel_rfl) (by kernel_rfl) (Runs.store (v := Value.agg #[Value.slice AL L.length cc]) (b := b1) (j := 0) (n := 1) (cs' := #[Value.slice AL L.length cc]) (H' := [Cel b7 #[Value.slice AL L.length cc] 38, MemR n4 n5 V, Cel b1 #[Value.slice AL L.length cc] 38]) (by kernel_rfl) (by kernel_rfl) (by kernel_rfl) (by kernel_rfl) (by kernel_rfl) hW 2 (by rfl) (Nat.le_of_ble_eq_true (by kernel_rfl)) (by kernel_rfl) (by rfl) ?_)); clear hA ac hW; intro w25 hW ac hA
       refine ⟨⟨fun h => absurd h (by decide), fun h => absurd h (by decide)⟩, ?_⟩
       refine sr_done (by kernel_rfl) ?_ _
       exact ⟨hA.sub ⟨⟨by kernel_rfl, by kernel_rfl⟩, ⟨by kernel_rfl, by kernel_rfl⟩, ⟨by kernel_rfl, by kernel_rfl⟩, ⟨by kernel_rfl, by kernel_rfl⟩, ⟨by kernel_rfl, by kernel_rfl⟩, ⟨by kernel_rfl, by kernel_rfl⟩, ⟨by kernel_rfl, by kernel_rfl⟩, ⟨by kernel_rfl, by kernel_rfl⟩, ⟨by kernel_rfl, by kernel_rfl⟩, ⟨by kernel_rfl, by kernel_rfl⟩, trivial⟩, (hW.pick [0, 1, 2] (by decide) rfl).pickG [0, 1] rfl⟩
     clear hA ac hW; rintro ac w26 ⟨hA, hW⟩
     refine thenN ?_
     refine wp_ret ?_
     refine ret2 (v1 := Value.pointer (some ⟨n4, 0, none⟩)) (v2 := Value.agg #[Value.slice AL L.length cc]) (by rfl) hA (Got.tmp hA (by kernel_rfl) (by kernel_rfl)) (Got.cell (b := b1) (i := 0) hA (by kernel_rfl) (by kernel_rfl) (hW.cel 2 rfl) (by kernel_rfl)) ?_
     clear hA
     exact ⟨n4, n5, V, L, AL, cc, by first | rfl | (simp; done), by rw [show k = l.length from by omega] at hR_; exact hR_, (by first | assumption | omega | (simp; omega) | simp), (hW.outSrc 0 rfl hscL), (hW.gd _ (List.mem_of_getElem? (i := 0) rfl) _ (List.mem_of_getElem? (i := 1) rfl)), (hW.pick [1] (by decide) rfl).madeDone 0 rfl⟩)

end Go.Proofs.Ytcokpdlmahlpnaa.L
