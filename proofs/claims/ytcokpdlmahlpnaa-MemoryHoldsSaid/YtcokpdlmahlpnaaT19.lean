/- Contracts, walked by program over the engine's laws. -/
import Derived.Test.YtcokpdlmahlpnaaProg
import Derived.Test.YtcokpdlmahlpnaaT18
import Derived.Test.YtcokpdlmahlpnaaRel06C
namespace Go.Proofs.Ytcokpdlmahlpnaa.L
open Go.RowKit

theorem Rel06.more {k : Nat} {L : List Cell6} {V : VT6} (r : Rel06 k L V) (hk : k ≤ 100) : V.length ≤ 100 ∧ L.length ≤ 100 ∧ (∀ e ∈ V, 0 ≤ e.1 ∧ e.1 ≤ 1048575) ∧ (∀ x ∈ L, 0 ≤ x.addr ∧ x.addr ≤ 4294967295) := ⟨by have := r.len; omega, by have := r.llen; omega, r.hn, fun x hx => (r.rng x hx).1⟩
theorem Rel06.comes {k : Nat} {L : List Cell6} {V : VT6} (r : Rel06 k L V) {frm : Int} {pre : List Cell6} {x : Cell6} (hc : Comes (fun l_ : List Cell6 => ∃ ks : List Int, ks.Perm (keys (vals V)) ∧ (ks.Pairwise fun x y => x ≤ y) ∧ l_ = cellsOf (vals V) frm ks) pre x) : (fromM L frm)[pre.length]? = some x := by
  obtain ⟨xs, ⟨ks, h1, h2, rfl⟩, t, ht⟩ := hc
  rw [r.cells h1 h2] at ht
  rw [← ht, List.append_assoc, List.getElem?_append_right (by omega)]; simp
theorem fromM_len (L : List Cell6) (a : Int) : (fromM L a).length ≤ L.length := (List.dropWhile_sublist _).length_le
theorem from_all {L : List Cell6} (hs : Rise L) (h : ∀ x ∈ L, 0 ≤ x.addr) : fromM L 0 = L := by
  refine rising_eq (fun x : Cell6 => x.addr) (from_rise hs 0) hs fun x => ?_
  rw [from_mem hs]; exact ⟨fun h => h.1, fun hx => ⟨hx, h x hx⟩⟩
set_option maxRecDepth 100000 in
theorem e_num06 (n : Int) (w : World)  : Calls Try.prog 17 #[Value.int .i64 n] w (fun e w' => e = .returned (Value.int .i64 n) ∧ w = w') := by
 refine enter_E 4 Try.func17 rfl rfl (by kernel_rfl) (L := [(0, Value.int .i64 n)]) (by kernel_rfl) ?_
 intro ac hA
 have hW := Ws.start w No
 refine wp_seq ?_
 refine wp_region_lit ?_
 refine st_rd (v := Value.int .i64 0) hA (by kernel_rfl) (by kernel_rfl) (by kernel_rfl) hW.cls (Rd.pure fun _ => by kernel_rfl) ?_; clear hA ac; intro ac hA
 refine wpList_nil ?_
 refine thenN ?_
 refine wp_seq ?_
 refine wp_region_lit ?_
 refine st_rd (v := Value.int .i64 n) hA (by kernel_rfl) (by kernel_rfl) (by kernel_rfl) hW.cls (Rd.pure fun _ => by kernel_rfl) ?_; clear hA ac; intro ac hA
 refine st_rd (v := Value.int .i64 n) hA (by kernel_rfl) (by kernel_rfl) (by kernel_rfl) hW.cls (Rd.pure fun _ => by kernel_rfl) ?_; clear hA ac; intro ac hA
 refine wpList_nil ?_
 refine thenN ?_
 refine wp_ret ?_
 refine ret1 (v := Value.int .i64 n) (by rfl) hA (Got.tmp hA (by kernel_rfl) (by kernel_rfl)) ?_
 clear hA
 exact ⟨retv (by rfl), rfl⟩

set_option maxRecDepth 100000 in
theorem e_is06 (m : Nat) (b : Nat) (V : VT6) (A_L : Option Addr) (c_L : Nat) (L : List Cell6) (frm : Int) (many : Int) (w : World) (ho_m : (MemR m b V).p w) (hl_m : ∀ x_ ∈ (MemR m b V).fp, x_ < w.heap.size) (hr_L : RowAt w A_L 2 enCell6 L) (hc_L : L.length ≤ c_L) (hR : ∃ n, n ≤ 100 ∧ Rel06 n L V) (hf : 0 ≤ frm ∧ frm ≤ 4294967295) : Calls Try.prog 20 #[Value.pointer (some ⟨m, 0, none⟩), Value.agg #[Value.slice A_L L.length c_L], Value.int .u32 frm, Value.int .i64 many] w (fun e w' => e = .returned (Value.bool true) ∧ Fr No w w') := by
 have _hu := hc_L; have _hv := hr_L; clear _hu _hv
 have _hu := ho_m; have _hv := hl_m; clear _hu _hv
 have _hu := hR; clear _hu
 have _hu := hf; clear _hu
 refine enter_F 105 Try.func20 rfl rfl (by kernel_rfl) (L := [(0, Value.pointer (some ⟨m, 0, none⟩)), (1, Value.agg #[Value.slice A_L L.length c_L]), (2, Value.int .u32 frm), (3, Value.int .i64 many)]) (by kernel_rfl) ?_
 intro ac hA
 have hW := Ws.start w No
 have hW := hW.arg hr_L
 have hW := hW.addG (MemR m b V) ho_m hl_m (by simp)
 clear ho_m hl_m
 refine wpIn_seq ?_
 refine wpIn_region_lit ?_
 refine stF hA (by kernel_rfl) (by kernel_rfl) (by kernel_rfl) (by kernel_rfl) (RunsF.of (Runs.cells (fun b => Value.pointer (some ⟨b, 0, none⟩)) #[Value.slice A_L L.length c_L] 38 (fun _ => by kernel_rfl) hW ?_)); clear hA ac hW; intro b1 w2 hW hb1 hfw2 ac hA
 refine stF hA (by kernel_rfl) (by kernel_rfl) (by kernel_rfl) (by kernel_rfl) (RunsF.of (Runs.cells (fun b => Value.pointer (some ⟨b, 0, none⟩)) #[Value.int .i64 many] 3 (fun _ => by kernel_rfl) hW ?_)); clear hA ac hW; intro b3 w4 hW hb3 hfw4 ac hA
 refine stF hA (by kernel_rfl) (by kernel_rfl) (by kernel_rfl) (by kernel_rfl) (RunsF.of (Runs.cells (fun b => Value.pointer (some ⟨b, 0, none⟩)) #[Value.bool false] 4 (fun _ => by kernel_rfl) hW ?_)); clear hA ac hW; intro b5 w6 hW hb5 hfw6 ac hA
 refine wpListIn_nil ?_
 refine thenN ?_
 refine wpIn_seq ?_
 obtain ⟨n_, hn_, hR_⟩ := hR; obtain ⟨hw1, hw2, hw3, hw4⟩ := hR_.more (by omega)
 refine wpIn_cut (fun ac_ wl_ => ∃ Aor1_2 : Option Addr, ∃ Aor1_4 : Option Addr, ∃ Aor1_6 : Option Addr, ∃ br1_7 : Nat, ∃ cor1_2 : Nat, ∃ cor1_4 : Nat, ∃ cor1_6 : Nat, ∃ g0r1_2 : List Cell6, ∃ g0r1_4 : List Int, ∃ g0r1_6 : List Int, ((g0r1_2).length ≤ cor1_2) ∧ ((g0r1_4).length ≤ cor1_4) ∧ ((g0r1_6).length ≤ cor1_6) ∧ (g0r1_2 = fromM L (frm)) ∧ (g0r1_4.Perm (keys (vals V))) ∧ (g0r1_4.Pairwise fun x y => x ≤ y) ∧ (g0r1_6 = pagesM L) ∧ Fm 105 [] [(0, Value.pointer (some ⟨m, 0, none⟩)), (1, Value.agg #[Value.slice A_L L.length c_L]), (2, Value.int .u32 frm), (3, Value.int .i64 many), (5, Value.pointer (some ⟨b1, 0, none⟩)), (7, Value.pointer (some ⟨b3, 0, none⟩)), (8, Value.pointer (some ⟨b5, 0, none⟩)), (9, Value.pointer (some ⟨br1_7, 0, none⟩)), (10, Value.slice Aor1_4 (g0r1_4).length cor1_4), (11, Value.slice Aor1_6 (g0r1_6).length cor1_6)] ac_ ∧ Ws w No [Cel br1_7 #[Value.slice Aor1_2 (g0r1_2).length cor1_2] 22, rowR 28 1 enU4 (Value.slice Aor1_6 (g0r1_6).length cor1_6) g0r1_6, rowR 28 1 enU4 (Value.slice Aor1_4 (g0r1_4).length cor1_4) g0r1_4, Cel b5 #[Value.bool false] 4, Cel b3 #[Value.int .i64 many] 3, Cel b1 #[Value.slice A_L L.length c_L] 38] [roR Aor1_2 2 enCell6 g0r1_2, MemR m b V, roR A_L 2 enCell6 L] wl_) ?_ ?_
 · refine sr_regionF (m := 11) (C := Ws w No [Cel b5 #[Value.bool false] 4, Cel b3 #[Value.int .i64 many] 3, Cel b1 #[Value.slice A_L L.length c_L] 38] [MemR m b V, roR A_L 2 enCell6 L]) (fun i => [0, 5].contains i) (fun i => [0, 2, 4, 5, 7].contains i) (fun i => [1, 3, 9, 10].contains i) (by kernel_rfl) (by kernel_rfl) (by kernel_rfl) (by kernel_rfl) (by kernel_rfl) (fun _ _ h => h) hW ?_; clear hW; intro w7 hW hfw7 hR; have hC : Ws w No [Cel b5 #[Value.bool false] 4, Cel b3 #[Value.int .i64 many] 3, Cel b1 #[Value.slice A_L L.length c_L] 38] [MemR m b V, roR A_L 2 enCell6 L] w7 := hW.pick [0, 1, 2] (by decide) rfl
   refine sr_take (i := 0) (v := Value.agg #[Value.slice A_L L.length c_L]) hR (by kernel_rfl) rfl (by kernel_rfl) (by kernel_rfl) (by kernel_rfl) (fun _ _ _ h => h.elim) hA (by kernel_rfl) (by kernel_rfl) (by kernel_rfl) hC (Rd.load (b := b1) (i := 0) (by kernel_rfl) (fun _ hw => (hw).cel 2 rfl) (by kernel_rfl)) ?_; clear hA ac; intro ac hA
   refine sr_pure (i := 1) (v := Value.int .u32 frm) hR (by kernel_rfl) rfl (by kernel_rfl) (by kernel_rfl) (fun _ _ _ h => h.elim) hA (by kernel_rfl) (by kernel_rfl) (by kernel_rfl) (Rd.pure fun _ => by kernel_rfl) ?_; clear hA ac; intro ac hA
   refine sr_pure (i := 3) (v := Value.pointer (some ⟨m, 0, none⟩)) hR (by kernel_rfl) rfl (by kernel_rfl) (by kernel_rfl) (fun _ _ _ h => h.elim) hA (by kernel_rfl) (by kernel_rfl) (by kernel_rfl) (Rd.pure fun _ => by kernel_rfl) ?_; clear hA ac; intro ac hA
   refine sr_take (i := 5) (v := Value.agg #[Value.slice A_L L.length c_L]) hR (by kernel_rfl) rfl (by kernel_rfl) (by kernel_rfl) (by kernel_rfl) (fun _ _ _ h => h.elim) hA (by kernel_rfl) (by kernel_rfl) (by kernel_rfl) hC (Rd.load (b := b1) (i := 0) (by kernel_rfl) (fun _ hw => (hw).cel 2 rfl) (by kernel_rfl)) ?_; clear hA ac; intro ac hA
   refine sr_two (i := 2) (j := 7) (by kernel_rfl) ?_ ?_
   · skip
     refine (sr_do rfl hA (by kernel_rfl) (by kernel_rfl) (by kernel_rfl) (Runs.call (fun _ => by kernel_rfl) (e_rfrom A_L c_L L (frm) w7 ((hW).getG 1 rfl) (by first | assumption | omega | (simp; omega) | simp) (by first | omega | assumption)) ?_))
     rintro _ w8 ⟨g0r1_2, Aor1_2, cor1_2, rfl, hr1_2_hF, hccor1_2, hfcor1_2, hfw8⟩; refine ⟨_, rfl, ?_⟩; have hW0 := hW; have hW := hW0.call hfw8
     have hW := hW0.addFromAt hW hfcor1_2 (in_cons (in_at 1 rfl) in_nil)
     clear hW0 hA ac; intro ac hA
     refine ⟨⟨fun _ => (hW.pick [0, 1, 2] (by decide) rfl).pickG [1, 2] rfl, fun h => absurd h (by decide)⟩, ?_⟩; have hC : Ws w No [Cel b5 #[Value.bool false] 4, Cel b3 #[Value.int .i64 many] 3, Cel b1 #[Value.slice A_L L.length c_L] 38] [MemR m b V, roR A_L 2 enCell6 L] w8 := (hW.pick [0, 1, 2] (by decide) rfl).pickG [1, 2] rfl
     refine sr_two (i := 4) (j := 7) (by kernel_rfl) ?_ ?_
     · skip
       refine (sr_do rfl hA (by kernel_rfl) (by kernel_rfl) (by kernel_rfl) (Runs.call (fun _ => by kernel_rfl) (e_mpages m b V w8 ((hW).getG 1 rfl) ((hW).glt _ (List.mem_of_getElem? (i := 1) rfl)) (by first | omega | assumption) (by first | omega | assumption)) ?_))
       rintro _ w9 ⟨g0r1_4, Aor1_4, cor1_4, rfl, hr1_4_hp, hr1_4_hs, hccor1_4, hu_⟩; refine ⟨_, rfl, ?_⟩; replace hW := hW.made hu_; clear hA ac; intro ac hA
       refine ⟨⟨fun _ => (hW.pick [1, 2, 3] (by decide) rfl).pickG [1, 2] rfl, fun h => absurd h (by decide)⟩, ?_⟩; have hC : Ws w No [Cel b5 #[Value.bool false] 4, Cel b3 #[Value.int .i64 many] 3, Cel b1 #[Value.slice A_L L.length c_L] 38] [MemR m b V, roR A_L 2 enCell6 L] w9 := (hW.pick [1, 2, 3] (by decide) rfl).pickG [1, 2] rfl
       refine sr_two (i := 6) (j := 7) (by kernel_rfl) ?_ ?_
       · skip
         refine (sr_do rfl hA (by kernel_rfl) (by kernel_rfl) (by kernel_rfl) (Runs.call (fun _ => by kernel_rfl) (e_rpages A_L c_L L w9 ((hW).getG 2 rfl) (by first | assumption | omega | (simp; omega) | simp) (by first | omega | assumption) (by first | omega | assumption)) ?_))
         rintro _ w10 ⟨g0r1_6, Aor1_6, cor1_6, rfl, hr1_6_hp, hccor1_6, hu_⟩; refine ⟨_, rfl, ?_⟩; replace hW := hW.made hu_; clear hA ac; intro ac hA
         refine ⟨⟨fun h => absurd h (by decide), fun h => absurd h (by decide)⟩, ?_⟩
         refine sr_one (i := 7) (by kernel_rfl) (sr_do rfl hA (by kernel_rfl) (by kernel_rfl) (by kernel_rfl) (Runs.cells (fun b => Value.pointer (some ⟨b, 0, none⟩)) #[Value.slice none 0 0] 22 (fun _ => by kernel_rfl) hW ?_)); clear hA ac hW; intro br1_7 w11 hW hbr1_7 hfw11 ac hA
         refine ⟨⟨fun _ => (hW.pick [3, 4, 5] (by decide) rfl).pickG [1, 2] rfl, fun h => absurd h (by decide)⟩, ?_⟩; have hC : Ws w No [Cel b5 #[Value.bool false] 4, Cel b3 #[Value.int .i64 many] 3, Cel b1 #[Value.slice A_L L.length c_L] 38] [MemR m b V, roR A_L 2 enCell6 L] w11 := (hW.pick [3, 4, 5] (by decide) rfl).pickG [1, 2] rfl
         refine sr_one (i := 8) (by kernel_rfl) (sr_do rfl hA (by kernel_rfl) (by kernel_rfl) (by kernel_rfl) (Runs.store (v := Value.slice Aor1_2 (g0r1_2).length cor1_2) (b := br1_7) (j := 0) (n := 1) (cs' := #[Value.slice Aor1_2 (g0r1_2).length cor1_2]) (H' := [Cel br1_7 #[Value.slice Aor1_2 (g0r1_2).length cor1_2] 22, rowR 28 1 enU4 (Value.slice Aor1_6 (g0r1_6).length cor1_6) g0r1_6, rowR 28 1 enU4 (Value.slice Aor1_4 (g0r1_4).length cor1_4) g0r1_4, Cel b5 #[Value.bool false] 4, Cel b3 #[Value.int .i64 many] 3, Cel b1 #[Value.slice A_L L.length c_L] 38]) (by kernel_rfl) (by kernel_rfl) (by kernel_rfl) (by kernel_rfl) (by kernel_rfl) hW 0 (by rfl) (Nat.le_of_ble_eq_true (by kernel_rfl)) (by kernel_rfl) (by rfl) ?_)); clear hA ac hW; intro w12 hW ac hA
         refine ⟨⟨fun h => absurd h (by decide), fun h => absurd h (by decide)⟩, ?_⟩
         refine sr_pure (i := 9) (v := Value.slice Aor1_4 (g0r1_4).length cor1_4) hR (by kernel_rfl) rfl (by kernel_rfl) (by kernel_rfl) (fun _ _ _ h => h.elim) hA (by kernel_rfl) (by kernel_rfl) (by kernel_rfl) (Rd.pure fun _ => by kernel_rfl) ?_; clear hA ac; intro ac hA
         refine sr_pure (i := 10) (v := Value.slice Aor1_6 (g0r1_6).length cor1_6) hR (by kernel_rfl) rfl (by kernel_rfl) (by kernel_rfl) (fun _ _ _ h => h.elim) hA (by kernel_rfl) (by kernel_rfl) (by kernel_rfl) (Rd.pure fun _ => by kernel_rfl) ?_; clear hA ac; intro ac hA
         refine sr_done (by kernel_rfl) ?_ _
         exact ⟨Aor1_2, Aor1_4, Aor1_6, br1_7, cor1_2, cor1_4, cor1_6, g0r1_2, g0r1_4, g0r1_6, hccor1_2, hccor1_4, hccor1_6, hr1_2_hF, hr1_4_hp, hr1_4_hs, hr1_6_hp, hA.sub ⟨⟨by kernel_rfl, by kernel_rfl⟩, ⟨by kernel_rfl, by kernel_rfl⟩, ⟨by kernel_rfl, by kernel_rfl⟩, ⟨by kernel_rfl, by kernel_rfl⟩, ⟨by kernel_rfl, by kernel_rfl⟩, ⟨by kernel_rfl, by kernel_rfl⟩, ⟨by kernel_rfl, by kernel_rfl⟩, ⟨by kernel_rfl, by kernel_rfl⟩, ⟨by kernel_rfl, by kernel_rfl⟩, ⟨by kernel_rfl, by kernel_rfl⟩, trivial⟩, (hW.pick [0, 1, 2, 3, 4, 5] (by decide) rfl).pickG [0, 1, 2] rfl⟩
       · skip
         refine (sr_do rfl hA (by kernel_rfl) (by kernel_rfl) (by kernel_rfl) (Runs.cells (fun b => Value.pointer (some ⟨b, 0, none⟩)) #[Value.slice none 0 0] 22 (fun _ => by kernel_rfl) hW ?_)); clear hA ac hW; intro br1_7 w13 hW hbr1_7 hfw13 ac hA
         refine ⟨⟨fun _ => (hW.pick [2, 3, 4] (by decide) rfl).pickG [1, 2] rfl, fun h => absurd h (by decide)⟩, ?_⟩; have hC : Ws w No [Cel b5 #[Value.bool false] 4, Cel b3 #[Value.int .i64 many] 3, Cel b1 #[Value.slice A_L L.length c_L] 38] [MemR m b V, roR A_L 2 enCell6 L] w13 := (hW.pick [2, 3, 4] (by decide) rfl).pickG [1, 2] rfl
         refine sr_one (i := 6) (by kernel_rfl) (sr_do rfl hA (by kernel_rfl) (by kernel_rfl) (by kernel_rfl) (Runs.call (fun _ => by kernel_rfl) (e_rpages A_L c_L L w13 ((hW).getG 2 rfl) (by first | assumption | omega | (simp; omega) | simp) (by first | omega | assumption) (by first | omega | assumption)) ?_))
         rintro _ w14 ⟨g0r1_6, Aor1_6, cor1_6, rfl, hr1_6_hp, hccor1_6, hu_⟩; refine ⟨_, rfl, ?_⟩; replace hW := hW.made hu_; clear hA ac; intro ac hA
         refine ⟨⟨fun h => absurd h (by decide), fun h => absurd h (by decide)⟩, ?_⟩
         refine sr_one (i := 8) (by kernel_rfl) (sr_do rfl hA (by kernel_rfl) (by kernel_rfl) (by kernel_rfl) (Runs.store (v := Value.slice Aor1_2 (g0r1_2).length cor1_2) (b := br1_7) (j := 0) (n := 1) (cs' := #[Value.slice Aor1_2 (g0r1_2).length cor1_2]) (H' := [rowR 28 1 enU4 (Value.slice Aor1_6 (g0r1_6).length cor1_6) g0r1_6, Cel br1_7 #[Value.slice Aor1_2 (g0r1_2).length cor1_2] 22, rowR 28 1 enU4 (Value.slice Aor1_4 (g0r1_4).length cor1_4) g0r1_4, Cel b5 #[Value.bool false] 4, Cel b3 #[Value.int .i64 many] 3, Cel b1 #[Value.slice A_L L.length c_L] 38]) (by kernel_rfl) (by kernel_rfl) (by kernel_rfl) (by kernel_rfl) (by kernel_rfl) hW 1 (by rfl) (Nat.le_of_ble_eq_true (by kernel_rfl)) (by kernel_rfl) (by rfl) ?_)); clear hA ac hW; intro w15 hW ac hA
         refine ⟨⟨fun h => absurd h (by decide), fun h => absurd h (by decide)⟩, ?_⟩
         refine sr_pure (i := 9) (v := Value.slice Aor1_4 (g0r1_4).length cor1_4) hR (by kernel_rfl) rfl (by kernel_rfl) (by kernel_rfl) (fun _ _ _ h => h.elim) hA (by kernel_rfl) (by kernel_rfl) (by kernel_rfl) (Rd.pure fun _ => by kernel_rfl) ?_; clear hA ac; intro ac hA
         refine sr_pure (i := 10) (v := Value.slice Aor1_6 (g0r1_6).length cor1_6) hR (by kernel_rfl) rfl (by kernel_rfl) (by kernel_rfl) (fun _ _ _ h => h.elim) hA (by kernel_rfl) (by kernel_rfl) (by kernel_rfl) (Rd.pure fun _ => by kernel_rfl) ?_; clear hA ac; intro ac hA
         refine sr_done (by kernel_rfl) ?_ _
         exact ⟨Aor1_2, Aor1_4, Aor1_6, br1_7, cor1_2, cor1_4, cor1_6, g0r1_2, g0r1_4, g0r1_6, hccor1_2, hccor1_4, hccor1_6, hr1_2_hF, hr1_4_hp, hr1_4_hs, hr1_6_hp, hA.sub ⟨⟨by kernel_rfl, by kernel_rfl⟩, ⟨by kernel_rfl, by kernel_rfl⟩, ⟨by kernel_rfl, by kernel_rfl⟩, ⟨by kernel_rfl, by kernel_rfl⟩, ⟨by kernel_rfl, by kernel_rfl⟩, ⟨by kernel_rfl, by kernel_rfl⟩, ⟨by kernel_rfl, by kernel_rfl⟩, ⟨by kernel_rfl, by kernel_rfl⟩, ⟨by kernel_rfl, by kernel_rfl⟩, ⟨by kernel_rfl, by kernel_rfl⟩, trivial⟩, (hW.pick [1, 0, 2, 3, 4, 5] (by decide) rfl).pickG [0, 1, 2] rfl⟩
     · skip
       refine (sr_do rfl hA (by kernel_rfl) (by kernel_rfl) (by kernel_rfl) (Runs.cells (fun b => Value.pointer (some ⟨b, 0, none⟩)) #[Value.slice none 0 0] 22 (fun _ => by kernel_rfl) hW ?_)); clear hA ac hW; intro br1_7 w16 hW hbr1_7 hfw16 ac hA
       refine ⟨⟨fun _ => (hW.pick [1, 2, 3] (by decide) rfl).pickG [1, 2] rfl, fun h => absurd h (by decide)⟩, ?_⟩; have hC : Ws w No [Cel b5 #[Value.bool false] 4, Cel b3 #[Value.int .i64 many] 3, Cel b1 #[Value.slice A_L L.length c_L] 38] [MemR m b V, roR A_L 2 enCell6 L] w16 := (hW.pick [1, 2, 3] (by decide) rfl).pickG [1, 2] rfl
       refine sr_one (i := 4) (by kernel_rfl) (sr_do rfl hA (by kernel_rfl) (by kernel_rfl) (by kernel_rfl) (Runs.call (fun _ => by kernel_rfl) (e_mpages m b V w16 ((hW).getG 1 rfl) ((hW).glt _ (List.mem_of_getElem? (i := 1) rfl)) (by first | omega | assumption) (by first | omega | assumption)) ?_))
       rintro _ w17 ⟨g0r1_4, Aor1_4, cor1_4, rfl, hr1_4_hp, hr1_4_hs, hccor1_4, hu_⟩; refine ⟨_, rfl, ?_⟩; replace hW := hW.made hu_; clear hA ac; intro ac hA
       refine ⟨⟨fun _ => (hW.pick [2, 3, 4] (by decide) rfl).pickG [1, 2] rfl, fun h => absurd h (by decide)⟩, ?_⟩; have hC : Ws w No [Cel b5 #[Value.bool false] 4, Cel b3 #[Value.int .i64 many] 3, Cel b1 #[Value.slice A_L L.length c_L] 38] [MemR m b V, roR A_L 2 enCell6 L] w17 := (hW.pick [2, 3, 4] (by decide) rfl).pickG [1, 2] rfl
       refine sr_one (i := 6) (by kernel_rfl) (sr_do rfl hA (by kernel_rfl) (by kernel_rfl) (by kernel_rfl) (Runs.call (fun _ => by kernel_rfl) (e_rpages A_L c_L L w17 ((hW).getG 2 rfl) (by first | assumption | omega | (simp; omega) | simp) (by first | omega | assumption) (by first | omega | assumption)) ?_))
       rintro _ w18 ⟨g0r1_6, Aor1_6, cor1_6, rfl, hr1_6_hp, hccor1_6, hu_⟩; refine ⟨_, rfl, ?_⟩; replace hW := hW.made hu_; clear hA ac; intro ac hA
       refine ⟨⟨fun h => absurd h (by decide), fun h => absurd h (by decide)⟩, ?_⟩
       refine sr_one (i := 8) (by kernel_rfl) (sr_do rfl hA (by kernel_rfl) (by kernel_rfl) (by kernel_rfl) (Runs.store (v := Value.slice Aor1_2 (g0r1_2).length cor1_2) (b := br1_7) (j := 0) (n := 1) (cs' := #[Value.slice Aor1_2 (g0r1_2).length cor1_2]) (H' := [rowR 28 1 enU4 (Value.slice Aor1_6 (g0r1_6).length cor1_6) g0r1_6, rowR 28 1 enU4 (Value.slice Aor1_4 (g0r1_4).length cor1_4) g0r1_4, Cel br1_7 #[Value.slice Aor1_2 (g0r1_2).length cor1_2] 22, Cel b5 #[Value.bool false] 4, Cel b3 #[Value.int .i64 many] 3, Cel b1 #[Value.slice A_L L.length c_L] 38]) (by kernel_rfl) (by kernel_rfl) (by kernel_rfl) (by kernel_rfl) (by kernel_rfl) hW 2 (by rfl) (Nat.le_of_ble_eq_true (by kernel_rfl)) (by kernel_rfl) (by rfl) ?_)); clear hA ac hW; intro w19 hW ac hA
       refine ⟨⟨fun h => absurd h (by decide), fun h => absurd h (by decide)⟩, ?_⟩
       refine sr_pure (i := 9) (v := Value.slice Aor1_4 (g0r1_4).length cor1_4) hR (by kernel_rfl) rfl (by kernel_rfl) (by kernel_rfl) (fun _ _ _ h => h.elim) hA (by kernel_rfl) (by kernel_rfl) (by kernel_rfl) (Rd.pure fun _ => by kernel_rfl) ?_; clear hA ac; intro ac hA
       refine sr_pure (i := 10) (v := Value.slice Aor1_6 (g0r1_6).length cor1_6) hR (by kernel_rfl) rfl (by kernel_rfl) (by kernel_rfl) (fun _ _ _ h => h.elim) hA (by kernel_rfl) (by kernel_rfl) (by kernel_rfl) (Rd.pure fun _ => by kernel_rfl) ?_; clear hA ac; intro ac hA
       refine sr_done (by kernel_rfl) ?_ _
       exact ⟨Aor1_2, Aor1_4, Aor1_6, br1_7, cor1_2, cor1_4, cor1_6, g0r1_2, g0r1_4, g0r1_6, hccor1_2, hccor1_4, hccor1_6, hr1_2_hF, hr1_4_hp, hr1_4_hs, hr1_6_hp, hA.sub ⟨⟨by kernel_rfl, by kernel_rfl⟩, ⟨by kernel_rfl, by kernel_rfl⟩, ⟨by kernel_rfl, by kernel_rfl⟩, ⟨by kernel_rfl, by kernel_rfl⟩, ⟨by kernel_rfl, by kernel_rfl⟩, ⟨by kernel_rfl, by kernel_rfl⟩, ⟨by kernel_rfl, by kernel_rfl⟩, ⟨by kernel_rfl, by kernel_rfl⟩, ⟨by kernel_rfl, by kernel_rfl⟩, ⟨by kernel_rfl, by kernel_rfl⟩, trivial⟩, (hW.pick [2, 0, 1, 3, 4, 5] (by decide) rfl).pickG [0, 1, 2] rfl⟩
   · skip
     refine (sr_do rfl hA (by kernel_rfl) (by kernel_rfl) (by kernel_rfl) (Runs.cells (fun b => Value.pointer (some ⟨b, 0, none⟩)) #[Value.slice none 0 0] 22 (fun _ => by kernel_rfl) hW ?_)); clear hA ac hW; intro br1_7 w20 hW hbr1_7 hfw20 ac hA
     refine ⟨⟨fun _ => (hW.pick [1, 2, 3] (by decide) rfl).pickG [0, 1] rfl, fun h => absurd h (by decide)⟩, ?_⟩; have hC : Ws w No [Cel b5 #[Value.bool false] 4, Cel b3 #[Value.int .i64 many] 3, Cel b1 #[Value.slice A_L L.length c_L] 38] [MemR m b V, roR A_L 2 enCell6 L] w20 := (hW.pick [1, 2, 3] (by decide) rfl).pickG [0, 1] rfl
     refine sr_one (i := 2) (by kernel_rfl) (sr_do rfl hA (by kernel_rfl) (by kernel_rfl) (by kernel_rfl) (Runs.call (fun _ => by kernel_rfl) (e_rfrom A_L c_L L (frm) w20 ((hW).getG 1 rfl) (by first | assumption | omega | (simp; omega) | simp) (by first | omega | assumption)) ?_))
     rintro _ w21 ⟨g0r1_2, Aor1_2, cor1_2, rfl, hr1_2_hF, hccor1_2, hfcor1_2, hfw21⟩; refine ⟨_, rfl, ?_⟩; have hW0 := hW; have hW := hW0.call hfw21
     have hW := hW0.addFromAt hW hfcor1_2 (in_cons (in_at 1 rfl) in_nil)
     clear hW0 hA ac; intro ac hA
     refine ⟨⟨fun _ => (hW.pick [1, 2, 3] (by decide) rfl).pickG [1, 2] rfl, fun h => absurd h (by decide)⟩, ?_⟩; have hC : Ws w No [Cel b5 #[Value.bool false] 4, Cel b3 #[Value.int .i64 many] 3, Cel b1 #[Value.slice A_L L.length c_L] 38] [MemR m b V, roR A_L 2 enCell6 L] w21 := (hW.pick [1, 2, 3] (by decide) rfl).pickG [1, 2] rfl
     refine sr_one (i := 4) (by kernel_rfl) (sr_do rfl hA (by kernel_rfl) (by kernel_rfl) (by kernel_rfl) (Runs.call (fun _ => by kernel_rfl) (e_mpages m b V w21 ((hW).getG 1 rfl) ((hW).glt _ (List.mem_of_getElem? (i := 1) rfl)) (by first | omega | assumption) (by first | omega | assumption)) ?_))
     rintro _ w22 ⟨g0r1_4, Aor1_4, cor1_4, rfl, hr1_4_hp, hr1_4_hs, hccor1_4, hu_⟩; refine ⟨_, rfl, ?_⟩; replace hW := hW.made hu_; clear hA ac; intro ac hA
     refine ⟨⟨fun _ => (hW.pick [2, 3, 4] (by decide) rfl).pickG [1, 2] rfl, fun h => absurd h (by decide)⟩, ?_⟩; have hC : Ws w No [Cel b5 #[Value.bool false] 4, Cel b3 #[Value.int .i64 many] 3, Cel b1 #[Value.slice A_L L.length c_L] 38] [MemR m b V, roR A_L 2 enCell6 L] w22 := (hW.pick [2, 3, 4] (by decide) rfl).pickG [1, 2] rfl
     refine sr_one (i := 6) (by kernel_rfl) (sr_do rfl hA (by kernel_rfl) (by kernel_rfl) (by kernel_rfl) (Runs.call (fun _ => by kernel_rfl) (e_rpages A_L c_L L w22 ((hW).getG 2 rfl) (by first | assumption | omega | (simp; omega) | simp) (by first | omega | assumption) (by first | omega | assumption)) ?_))
     rintro _ w23 ⟨g0r1_6, Aor1_6, cor1_6, rfl, hr1_6_hp, hccor1_6, hu_⟩; refine ⟨_, rfl, ?_⟩; replace hW := hW.made hu_; clear hA ac; intro ac hA
     refine ⟨⟨fun h => absurd h (by decide), fun h => absurd h (by decide)⟩, ?_⟩
     refine sr_one (i := 8) (by kernel_rfl) (sr_do rfl hA (by kernel_rfl) (by kernel_rfl) (by kernel_rfl) (Runs.store (v := Value.slice Aor1_2 (g0r1_2).length cor1_2) (b := br1_7) (j := 0) (n := 1) (cs' := #[Value.slice Aor1_2 (g0r1_2).length cor1_2]) (H' := [rowR 28 1 enU4 (Value.slice Aor1_6 (g0r1_6).length cor1_6) g0r1_6, rowR 28 1 enU4 (Value.slice Aor1_4 (g0r1_4).length cor1_4) g0r1_4, Cel br1_7 #[Value.slice Aor1_2 (g0r1_2).length cor1_2] 22, Cel b5 #[Value.bool false] 4, Cel b3 #[Value.int .i64 many] 3, Cel b1 #[Value.slice A_L L.length c_L] 38]) (by kernel_rfl) (by kernel_rfl) (by kernel_rfl) (by kernel_rfl) (by kernel_rfl) hW 2 (by rfl) (Nat.le_of_ble_eq_true (by kernel_rfl)) (by kernel_rfl) (by rfl) ?_)); clear hA ac hW; intro w24 hW ac hA
     refine ⟨⟨fun h => absurd h (by decide), fun h => absurd h (by decide)⟩, ?_⟩
     refine sr_pure (i := 9) (v := Value.slice Aor1_4 (g0r1_4).length cor1_4) hR (by kernel_rfl) rfl (by kernel_rfl) (by kernel_rfl) (fun _ _ _ h => h.elim) hA (by kernel_rfl) (by kernel_rfl) (by kernel_rfl) (Rd.pure fun _ => by kernel_rfl) ?_; clear hA ac; intro ac hA
     refine sr_pure (i := 10) (v := Value.slice Aor1_6 (g0r1_6).length cor1_6) hR (by kernel_rfl) rfl (by kernel_rfl) (by kernel_rfl) (fun _ _ _ h => h.elim) hA (by kernel_rfl) (by kernel_rfl) (by kernel_rfl) (Rd.pure fun _ => by kernel_rfl) ?_; clear hA ac; intro ac hA
     refine sr_done (by kernel_rfl) ?_ _
     exact ⟨Aor1_2, Aor1_4, Aor1_6, br1_7, cor1_2, cor1_4, cor1_6, g0r1_2, g0r1_4, g0r1_6, hccor1_2, hccor1_4, hccor1_6, hr1_2_hF, hr1_4_hp, hr1_4_hs, hr1_6_hp, hA.sub ⟨⟨by kernel_rfl, by kernel_rfl⟩, ⟨by kernel_rfl, by kernel_rfl⟩, ⟨by kernel_rfl, by kernel_rfl⟩, ⟨by kernel_rfl, by kernel_rfl⟩, ⟨by kernel_rfl, by kernel_rfl⟩, ⟨by kernel_rfl, by kernel_rfl⟩, ⟨by kernel_rfl, by kernel_rfl⟩, ⟨by kernel_rfl, by kernel_rfl⟩, ⟨by kernel_rfl, by kernel_rfl⟩, ⟨by kernel_rfl, by kernel_rfl⟩, trivial⟩, (hW.pick [2, 0, 1, 3, 4, 5] (by decide) rfl).pickG [0, 1, 2] rfl⟩
 clear hA ac hW; rintro ac w25 ⟨Aor1_2, Aor1_4, Aor1_6, br1_7, cor1_2, cor1_4, cor1_6, g0r1_2, g0r1_4, g0r1_6, hccor1_2, hccor1_4, hccor1_6, hr1_2_hF, hr1_4_hp, hr1_4_hs, hr1_6_hp, hA, hW⟩
 refine thenN ?_
 refine wpIn_seq ?_
 refine wpIn_region_lit ?_
 refine st_rdF (v := Value.pointer (some ⟨m, 0, none⟩)) hA (by kernel_rfl) (by kernel_rfl) (by kernel_rfl) (by kernel_rfl) hW.cls (Rd.pure fun _ => by kernel_rfl) ?_; clear hA ac; intro ac hA
 refine st_rdF (v := Value.int .u32 frm) hA (by kernel_rfl) (by kernel_rfl) (by kernel_rfl) (by kernel_rfl) hW.cls (Rd.pure fun _ => by kernel_rfl) ?_; clear hA ac; intro ac hA
 refine stF hA (by kernel_rfl) (by kernel_rfl) (by kernel_rfl) (by kernel_rfl) (RunsF.of (Runs.call (fun _ => by kernel_rfl) (e_mfrom m b V (frm) w25 ((hW).getG 1 rfl) ((hW).glt _ (List.mem_of_getElem? (i := 1) rfl)) (by first | omega | assumption) (by first | omega | assumption) (by first | omega | assumption)) ?_))
 rintro _ w26 ⟨lb27, g28, rfl, hIg28, hfg28, hfw26⟩; refine ⟨_, rfl, ?_⟩; have hW0 := hW; have hW := hW0.call hfw26; have hW := hW0.addFromAt hW hfg28 in_nil; clear hW0 hA ac; intro ac hA
 refine st_rdF (v := Value.func (.func 35) #[] lb27) hA (by kernel_rfl) (by kernel_rfl) (by kernel_rfl) (by kernel_rfl) hW.cls (Rd.pure fun _ => by kernel_rfl) ?_; clear hA ac; intro ac hA
 refine wpListIn_nil ?_
 refine thenN ?_
 refine wpIn_seq ?_
 refine wpIn_seq ?_
 have hpg_ := (hR_.pages hr1_4_hp hr1_4_hs).trans hr1_6_hp.symm; have hpl_ := congrArg List.length hpg_; have hpk_ := hr1_4_hp.length_eq; simp only [keys, List.length_map] at hpk_; rw [vals_len] at hpk_
 refine wpIn_cut (fun ac_ wl_ => ∃ g0r3_4 : List Int, ∃ g1r3_4 : List Cell6, (g1r3_4 = cellsOf (vals V) 0 g0r3_4) ∧ (g0r3_4.Perm (keys (vals V))) ∧ (g0r3_4.Pairwise fun x y => x ≤ y) ∧ Fm 105 [] [(0, Value.pointer (some ⟨m, 0, none⟩)), (1, Value.agg #[Value.slice A_L L.length c_L]), (2, Value.int .u32 frm), (3, Value.int .i64 many), (5, Value.pointer (some ⟨b1, 0, none⟩)), (7, Value.pointer (some ⟨b3, 0, none⟩)), (8, Value.pointer (some ⟨b5, 0, none⟩)), (9, Value.pointer (some ⟨br1_7, 0, none⟩)), (10, Value.slice Aor1_4 (g0r1_4).length cor1_4), (11, Value.slice Aor1_6 (g0r1_6).length cor1_6), (12, Value.func (.func 35) #[] lb27), (24, Value.pointer (some ⟨m, 0, none⟩)), (25, Value.int .u32 frm), (26, Value.func (.func 35) #[] lb27), (52, Value.bool (((((look (vals V) (pgN (frm))).map fun f => f (pgI (frm)).toNat).getD 0) : Int) != (loadM L (frm) : Int)))] ac_ ∧ Ws w No [Cel br1_7 #[Value.slice Aor1_2 (g0r1_2).length cor1_2] 22, rowR 28 1 enU4 (Value.slice Aor1_6 (g0r1_6).length cor1_6) g0r1_6, rowR 28 1 enU4 (Value.slice Aor1_4 (g0r1_4).length cor1_4) g0r1_4, Cel b5 #[Value.bool false] 4, Cel b3 #[Value.int .i64 many] 3, Cel b1 #[Value.slice A_L L.length c_L] 38] [g28, roR Aor1_2 2 enCell6 g0r1_2, MemR m b V, roR A_L 2 enCell6 L] wl_) ?_ ?_
 · refine sr_regionF (m := 26) (C := Ws w No [Cel br1_7 #[Value.slice Aor1_2 (g0r1_2).length cor1_2] 22, rowR 28 1 enU4 (Value.slice Aor1_6 (g0r1_6).length cor1_6) g0r1_6, rowR 28 1 enU4 (Value.slice Aor1_4 (g0r1_4).length cor1_4) g0r1_4, Cel b5 #[Value.bool false] 4, Cel b3 #[Value.int .i64 many] 3, Cel b1 #[Value.slice A_L L.length c_L] 38] [g28, roR Aor1_2 2 enCell6 g0r1_2, MemR m b V, roR A_L 2 enCell6 L]) (fun i => [6].contains i) (fun i => [4, 6].contains i) (fun i => [0, 1, 2, 3, 5, 7, 8, 9, 10, 11, 12, 13, 14, 15, 16, 17, 18, 19, 22, 24, 25].contains i) (by kernel_rfl) (by kernel_rfl) (by kernel_rfl) (by kernel_rfl) (by kernel_rfl) (fun _ _ h => h) hW ?_; clear hW; intro w29 hW hfw29 hR; have hC : Ws w No [Cel br1_7 #[Value.slice Aor1_2 (g0r1_2).length cor1_2] 22, rowR 28 1 enU4 (Value.slice Aor1_6 (g0r1_6).length cor1_6) g0r1_6, rowR 28 1 enU4 (Value.slice Aor1_4 (g0r1_4).length cor1_4) g0r1_4, Cel b5 #[Value.bool false] 4, Cel b3 #[Value.int .i64 many] 3, Cel b1 #[Value.slice A_L L.length c_L] 38] [g28, roR Aor1_2 2 enCell6 g0r1_2, MemR m b V, roR A_L 2 enCell6 L] w29 := hW.pick [0, 1, 2, 3, 4, 5] (by decide) rfl
   refine sr_pure (i := 0) (v := Value.func (.func 35) #[] lb27) hR (by kernel_rfl) rfl (by kernel_rfl) (by kernel_rfl) (fun _ _ _ h => h.elim) hA (by kernel_rfl) (by kernel_rfl) (by kernel_rfl) (Rd.pure fun _ => by kernel_rfl) ?_; clear hA ac; intro ac hA
   refine sr_pure (i := 1) (v := Value.bool false) hR (by kernel_rfl) rfl (by kernel_rfl) (by kernel_rfl) (fun _ _ _ h => h.elim) hA (by kernel_rfl) (by kernel_rfl) (by kernel_rfl) (Rd.pure fun _ => by kernel_rfl) ?_; clear hA ac; intro ac hA
   refine sr_pure (i := 2) (v := Value.bool false) hR (by kernel_rfl) rfl (by kernel_rfl) (by kernel_rfl) (fun _ _ _ h => h.elim) hA (by kernel_rfl) (by kernel_rfl) (by kernel_rfl) (Rd.pure fun _ => by kernel_rfl) ?_; clear hA ac; intro ac hA
   refine sr_pure (i := 3) (v := Value.pointer (some ⟨m, 0, none⟩)) hR (by kernel_rfl) rfl (by kernel_rfl) (by kernel_rfl) (fun _ _ _ h => h.elim) hA (by kernel_rfl) (by kernel_rfl) (by kernel_rfl) (Rd.pure fun _ => by kernel_rfl) ?_; clear hA ac; intro ac hA
   refine sr_pure (i := 5) (v := Value.pointer (some ⟨b1, 0, none⟩)) hR (by kernel_rfl) rfl (by kernel_rfl) (by kernel_rfl) (fun _ _ _ h => h.elim) hA (by kernel_rfl) (by kernel_rfl) (by kernel_rfl) (Rd.pure fun _ => by kernel_rfl) ?_; clear hA ac; intro ac hA
   refine sr_take (i := 6) (v := Value.slice A_L L.length c_L) hR (by kernel_rfl) rfl (by kernel_rfl) (by kernel_rfl) (by kernel_rfl) (fun _ _ _ h => h.elim) hA (by kernel_rfl) (by kernel_rfl) (by kernel_rfl) hC (Rd.load (b := b1) (i := 0) (by kernel_rfl) (fun _ hw => (hw).cel 5 rfl) (by kernel_rfl)) ?_; clear hA ac; intro ac hA
   refine sr_pure (i := 7) (v := Value.int .i64 ((L.length : Nat) : Int)) hR (by kernel_rfl) rfl (by kernel_rfl) (by kernel_rfl) (fun _ _ _ h => h.elim) hA (by kernel_rfl) (by kernel_rfl) (by kernel_rfl) (Rd.pure fun _ => by kernel_rfl) ?_; clear hA ac; intro ac hA
   refine sr_one (i := 4) (by kernel_rfl) (sr_do rfl hA (by kernel_rfl) (by kernel_rfl) (by kernel_rfl) (Runs.call (fun _ => by kernel_rfl) (e_mlen m b V w29 ((hW).getG 2 rfl) ((hW).glt _ (List.mem_of_getElem? (i := 2) rfl)) (by first | omega | assumption) (by first | omega | assumption)) ?_))
   rintro _ w30 ⟨g0r3_4, g1r3_4, rfl, hr3_4_hp, hr3_4_hs, hr3_4_hO, hfw30⟩; refine ⟨_, rfl, ?_⟩; have hW0 := hW; have hW := hW0.call hfw30
   clear hW0 hA ac; intro ac hA
   have hlen_ : g1r3_4.length = L.length := by rw [hr3_4_hO, hR_.cells hr3_4_hp hr3_4_hs]; exact congrArg List.length (from_all hR_.rise (fun x hx => (hR_.rng x hx).1.1))
   refine ⟨⟨fun _ => (hW.pick [0, 1, 2, 3, 4, 5] (by decide) rfl).pickG [0, 1, 2, 3] rfl, fun h => absurd h (by decide)⟩, ?_⟩; have hC : Ws w No [Cel br1_7 #[Value.slice Aor1_2 (g0r1_2).length cor1_2] 22, rowR 28 1 enU4 (Value.slice Aor1_6 (g0r1_6).length cor1_6) g0r1_6, rowR 28 1 enU4 (Value.slice Aor1_4 (g0r1_4).length cor1_4) g0r1_4, Cel b5 #[Value.bool false] 4, Cel b3 #[Value.int .i64 many] 3, Cel b1 #[Value.slice A_L L.length c_L] 38] [g28, roR Aor1_2 2 enCell6 g0r1_2, MemR m b V, roR A_L 2 enCell6 L] w30 := (hW.pick [0, 1, 2, 3, 4, 5] (by decide) rfl).pickG [0, 1, 2, 3] rfl
   refine sr_pure (i := 8) (v := Value.bool ((((g1r3_4.length : Nat) : Int) : Int) != (((L.length : Nat) : Int) : Int))) hR (by kernel_rfl) rfl (by kernel_rfl) (by kernel_rfl) (fun _ _ _ h => h.elim) hA (by kernel_rfl) (by kernel_rfl) (by kernel_rfl) (Rd.pure fun _ => by kernel_rfl) ?_; clear hA ac; intro ac hA
   refine sr_pure (i := 9) (v := Value.bool ((((g1r3_4.length : Nat) : Int) : Int) != (((L.length : Nat) : Int) : Int))) hR (by kernel_rfl) rfl (by kernel_rfl) (by kernel_rfl) (fun _ _ _ h => h.elim) hA (by kernel_rfl) (by kernel_rfl) (by kernel_rfl) (Rd.pure fun _ => by kernel_rfl) ?_; clear hA ac; intro ac hA
   refine sr_pure (i := 10) (v := Value.bool ((((g1r3_4.length : Nat) : Int) : Int) != (((L.length : Nat) : Int) : Int))) hR (by kernel_rfl) rfl (by kernel_rfl) (by kernel_rfl) (fun _ _ _ h => h.elim) hA (by kernel_rfl) (by kernel_rfl) (by kernel_rfl) (Rd.pure fun _ => by kernel_rfl) ?_; clear hA ac; intro ac hA
   rw [show ((((g1r3_4.length : Nat) : Int) : Int) != (((L.length : Nat) : Int) : Int)) = false from (by first | (rw [hlen_]; simp; done) | (rw [hpl_]; simp; done))] at hA
   refine sr_pure (i := 11) (v := Value.slice Aor1_4 (g0r1_4).length cor1_4) hR (by kernel_rfl) rfl (by kernel_rfl) (by kernel_rfl) (fun _ _ _ h => h.elim) hA (by kernel_rfl) (by kernel_rfl) (by kernel_rfl) (Rd.pure fun _ => by kernel_rfl) ?_; clear hA ac; intro ac hA
   refine sr_pure (i := 12) (v := Value.int .i64 (((g0r1_4).length : Nat) : Int)) hR (by kernel_rfl) rfl (by kernel_rfl) (by kernel_rfl) (fun _ _ _ h => h.elim) hA (by kernel_rfl) (by kernel_rfl) (by kernel_rfl) (Rd.pure fun _ => by kernel_rfl) ?_; clear hA ac; intro ac hA
   refine sr_pure (i := 13) (v := Value.slice Aor1_6 (g0r1_6).length cor1_6) hR (by kernel_rfl) rfl (by kernel_rfl) (by kernel_rfl) (fun _ _ _ h => h.elim) hA (by kernel_rfl) (by kernel_rfl) (by kernel_rfl) (Rd.pure fun _ => by kernel_rfl) ?_; clear hA ac; intro ac hA
   refine sr_pure (i := 14) (v := Value.int .i64 (((g0r1_6).length : Nat) : Int)) hR (by kernel_rfl) rfl (by kernel_rfl) (by kernel_rfl) (fun _ _ _ h => h.elim) hA (by kernel_rfl) (by kernel_rfl) (by kernel_rfl) (Rd.pure fun _ => by kernel_rfl) ?_; clear hA ac; intro ac hA
   refine sr_pure (i := 15) (v := Value.bool (((((g0r1_4).length : Nat) : Int) : Int) != ((((g0r1_6).length : Nat) : Int) : Int))) hR (by kernel_rfl) rfl (by kernel_rfl) (by kernel_rfl) (fun _ _ _ h => h.elim) hA (by kernel_rfl) (by kernel_rfl) (by kernel_rfl) (Rd.pure fun _ => by kernel_rfl) ?_; clear hA ac; intro ac hA
   refine sr_pure (i := 16) (v := Value.bool (((((g0r1_4).length : Nat) : Int) : Int) != ((((g0r1_6).length : Nat) : Int) : Int))) hR (by kernel_rfl) rfl (by kernel_rfl) (by kernel_rfl) (fun _ _ _ h => h.elim) hA (by kernel_rfl) (by kernel_rfl) (by kernel_rfl) (Rd.pure fun _ => by kernel_rfl) ?_; clear hA ac; intro ac hA
   refine sr_pure (i := 17) (v := Value.bool (((((g0r1_4).length : Nat) : Int) : Int) != ((((g0r1_6).length : Nat) : Int) : Int))) hR (by kernel_rfl) rfl (by kernel_rfl) (by kernel_rfl) (fun _ _ _ h => h.elim) hA (by kernel_rfl) (by kernel_rfl) (by kernel_rfl) (Rd.pure fun _ => by kernel_rfl) ?_; clear hA ac; intro ac hA
   rw [show (((((g0r1_4).length : Nat) : Int) : Int) != ((((g0r1_6).length : Nat) : Int) : Int)) = false from (by first | (rw [hlen_]; simp; done) | (rw [hpl_]; simp; done))] at hA
   refine sr_pure (i := 18) (v := Value.pointer (some ⟨m, 0, none⟩)) hR (by kernel_rfl) rfl (by kernel_rfl) (by kernel_rfl) (fun _ _ _ h => h.elim) hA (by kernel_rfl) (by kernel_rfl) (by kernel_rfl) (Rd.pure fun _ => by kernel_rfl) ?_; clear hA ac; intro ac hA
   refine sr_pure (i := 19) (v := Value.int .u32 frm) hR (by kernel_rfl) rfl (by kernel_rfl) (by kernel_rfl) (fun _ _ _ h => h.elim) hA (by kernel_rfl) (by kernel_rfl) (by kernel_rfl) (Rd.pure fun _ => by kernel_rfl) ?_; clear hA ac; intro ac hA
   refine sr_pure (i := 22) (v := Value.int .u32 frm) hR (by kernel_rfl) rfl (by kernel_rfl) (by kernel_rfl) (fun _ _ _ h => h.elim) hA (by kernel_rfl) (by kernel_rfl) (by kernel_rfl) (Rd.pure fun _ => by kernel_rfl) ?_; clear hA ac; intro ac hA
   refine sr_two (i := 20) (j := 21) (by kernel_rfl) ?_ ?_
   · skip
     refine (sr_do rfl hA (by kernel_rfl) (by kernel_rfl) (by kernel_rfl) (Runs.callN (v := Value.int .u32 (((look (vals V) (pgN (frm))).map fun f => f (pgI (frm)).toNat).getD 0)) (fun _ => by kernel_rfl) hW (e_mload m b V (frm) w30 ((hW).getG 2 rfl) ((hW).glt _ (List.mem_of_getElem? (i := 2) rfl)) (by first | omega | assumption)) ?_)); clear hA ac hW; intro w31 hW hfw31 ac hA
     refine ⟨⟨fun h => absurd h (by decide), fun h => absurd h (by decide)⟩, ?_⟩
     refine sr_one (i := 21) (by kernel_rfl) (sr_do rfl hA (by kernel_rfl) (by kernel_rfl) (by kernel_rfl) (Runs.ofRd (v := Value.agg #[Value.slice A_L L.length c_L]) (C' := Ws w No [Cel br1_7 #[Value.slice Aor1_2 (g0r1_2).length cor1_2] 22, rowR 28 1 enU4 (Value.slice Aor1_6 (g0r1_6).length cor1_6) g0r1_6, rowR 28 1 enU4 (Value.slice Aor1_4 (g0r1_4).length cor1_4) g0r1_4, Cel b5 #[Value.bool false] 4, Cel b3 #[Value.int .i64 many] 3, Cel b1 #[Value.slice A_L L.length c_L] 38] [g28, roR Aor1_2 2 enCell6 g0r1_2, MemR m b V, roR A_L 2 enCell6 L]) hW (Rd.load (b := b1) (i := 0) (by kernel_rfl) (fun _ hw => (hw).cel 5 rfl) (by kernel_rfl)) ?_)); clear hA ac; intro  ac hA
     refine ⟨⟨fun h => absurd h (by decide), fun h => absurd h (by decide)⟩, ?_⟩
     refine sr_one (i := 23) (by kernel_rfl) (sr_do rfl hA (by kernel_rfl) (by kernel_rfl) (by kernel_rfl) (Runs.callN (v := Value.int .u32 (loadM L (frm))) (fun _ => by kernel_rfl) hW (e_rload A_L c_L L (frm) w31 ((hW).getG 3 rfl) (by first | assumption | omega | (simp; omega) | simp) (by first | omega | assumption)) ?_)); clear hA ac hW; intro w32 hW hfw32 ac hA
     refine ⟨⟨fun h => absurd h (by decide), fun h => absurd h (by decide)⟩, ?_⟩
     refine sr_pure (i := 24) (v := Value.bool (((((look (vals V) (pgN (frm))).map fun f => f (pgI (frm)).toNat).getD 0) : Int) != (loadM L (frm) : Int))) hR (by kernel_rfl) rfl (by kernel_rfl) (by kernel_rfl) (fun _ _ _ h => h.elim) hA (by kernel_rfl) (by kernel_rfl) (by kernel_rfl) (Rd.pure fun _ => by kernel_rfl) ?_; clear hA ac; intro ac hA
     refine sr_pure (i := 25) (v := Value.bool (((((look (vals V) (pgN (frm))).map fun f => f (pgI (frm)).toNat).getD 0) : Int) != (loadM L (frm) : Int))) hR (by kernel_rfl) rfl (by kernel_rfl) (by kernel_rfl) (fun _ _ _ h => h.elim) hA (by kernel_rfl) (by kernel_rfl) (by kernel_rfl) (Rd.pure fun _ => by kernel_rfl) ?_; clear hA ac; intro ac hA
     refine sr_done (by kernel_rfl) ?_ _
     exact ⟨g0r3_4, g1r3_4, hr3_4_hO, hr3_4_hp, hr3_4_hs, hA.sub ⟨⟨by kernel_rfl, by kernel_rfl⟩, ⟨by kernel_rfl, by kernel_rfl⟩, ⟨by kernel_rfl, by kernel_rfl⟩, ⟨by kernel_rfl, by kernel_rfl⟩, ⟨by kernel_rfl, by kernel_rfl⟩, ⟨by kernel_rfl, by kernel_rfl⟩, ⟨by kernel_rfl, by kernel_rfl⟩, ⟨by kernel_rfl, by kernel_rfl⟩, ⟨by kernel_rfl, by kernel_rfl⟩, ⟨by kernel_rfl, by kernel_rfl⟩, ⟨by kernel_rfl, by kernel_rfl⟩, ⟨by kernel_rfl, by kernel_rfl⟩, ⟨by kernel_rfl, by kernel_rfl⟩, ⟨by kernel_rfl, by kernel_rfl⟩, ⟨by kernel_rfl, by kernel_rfl⟩, trivial⟩, (hW.pick [0, 1, 2, 3, 4, 5] (by decide) rfl).pickG [0, 1, 2, 3] rfl⟩
   · skip
     refine (sr_do rfl hA (by kernel_rfl) (by kernel_rfl) (by kernel_rfl) (Runs.ofRd (v := Value.agg #[Value.slice A_L L.length c_L]) (C' := Ws w No [Cel br1_7 #[Value.slice Aor1_2 (g0r1_2).length cor1_2] 22, rowR 28 1 enU4 (Value.slice Aor1_6 (g0r1_6).length cor1_6) g0r1_6, rowR 28 1 enU4 (Value.slice Aor1_4 (g0r1_4).length cor1_4) g0r1_4, Cel b5 #[Value.bool false] 4, Cel b3 #[Value.int .i64 many] 3, Cel b1 #[Value.slice A_L L.length c_L] 38] [g28, roR Aor1_2 2 enCell6 g0r1_2, MemR m b V, roR A_L 2 enCell6 L]) hW (Rd.load (b := b1) (i := 0) (by kernel_rfl) (fun _ hw => (hw).cel 5 rfl) (by kernel_rfl)) ?_)); clear hA ac; intro  ac hA
     refine ⟨⟨fun h => absurd h (by decide), fun h => absurd h (by decide)⟩, ?_⟩
     refine sr_one (i := 20) (by kernel_rfl) (sr_do rfl hA (by kernel_rfl) (by kernel_rfl) (by kernel_rfl) (Runs.callN (v := Value.int .u32 (((look (vals V) (pgN (frm))).map fun f => f (pgI (frm)).toNat).getD 0)) (fun _ => by kernel_rfl) hW (e_mload m b V (frm) w30 ((hW).getG 2 rfl) ((hW).glt _ (List.mem_of_getElem? (i := 2) rfl)) (by first | omega | assumption)) ?_)); clear hA ac hW; intro w33 hW hfw33 ac hA
     refine ⟨⟨fun h => absurd h (by decide), fun h => absurd h (by decide)⟩, ?_⟩
     refine sr_one (i := 23) (by kernel_rfl) (sr_do rfl hA (by kernel_rfl) (by kernel_rfl) (by kernel_rfl) (Runs.callN (v := Value.int .u32 (loadM L (frm))) (fun _ => by kernel_rfl) hW (e_rload A_L c_L L (frm) w33 ((hW).getG 3 rfl) (by first | assumption | omega | (simp; omega) | simp) (by first | omega | assumption)) ?_)); clear hA ac hW; intro w34 hW hfw34 ac hA
     refine ⟨⟨fun h => absurd h (by decide), fun h => absurd h (by decide)⟩, ?_⟩
     refine sr_pure (i := 24) (v := Value.bool (((((look (vals V) (pgN (frm))).map fun f => f (pgI (frm)).toNat).getD 0) : Int) != (loadM L (frm) : Int))) hR (by kernel_rfl) rfl (by kernel_rfl) (by kernel_rfl) (fun _ _ _ h => h.elim) hA (by kernel_rfl) (by kernel_rfl) (by kernel_rfl) (Rd.pure fun _ => by kernel_rfl) ?_; clear hA ac; intro ac hA
     refine sr_pure (i := 25) (v := Value.bool (((((look (vals V) (pgN (frm))).map fun f => f (pgI (frm)).toNat).getD 0) : Int) != (loadM L (frm) : Int))) hR (by kernel_rfl) rfl (by kernel_rfl) (by kernel_rfl) (fun _ _ _ h => h.elim) hA (by kernel_rfl) (by kernel_rfl) (by kernel_rfl) (Rd.pure fun _ => by kernel_rfl) ?_; clear hA ac; intro ac hA
     refine sr_done (by kernel_rfl) ?_ _
     exact ⟨g0r3_4, g1r3_4, hr3_4_hO, hr3_4_hp, hr3_4_hs, hA.sub ⟨⟨by kernel_rfl, by kernel_rfl⟩, ⟨by kernel_rfl, by kernel_rfl⟩, ⟨by kernel_rfl, by kernel_rfl⟩, ⟨by kernel_rfl, by kernel_rfl⟩, ⟨by kernel_rfl, by kernel_rfl⟩, ⟨by kernel_rfl, by kernel_rfl⟩, ⟨by kernel_rfl, by kernel_rfl⟩, ⟨by kernel_rfl, by kernel_rfl⟩, ⟨by kernel_rfl, by kernel_rfl⟩, ⟨by kernel_rfl, by kernel_rfl⟩, ⟨by kernel_rfl, by kernel_rfl⟩, ⟨by kernel_rfl, by kernel_rfl⟩, ⟨by kernel_rfl, by kernel_rfl⟩, ⟨by kernel_rfl, by kernel_rfl⟩, ⟨by kernel_rfl, by kernel_rfl⟩, trivial⟩, (hW.pick [0, 1, 2, 3, 4, 5] (by decide) rfl).pickG [0, 1, 2, 3] rfl⟩
 clear hA ac hW; rintro ac w35 ⟨g0r3_4, g1r3_4, hr3_4_hO, hr3_4_hp, hr3_4_hs, hA, hW⟩
 refine thenN ?_
 refine wpIn_cond_split (t := ((((look (vals V) (pgN (frm))).map fun f => f (pgI (frm)).toNat).getD 0) : Int) != (loadM L (frm) : Int)) (hA.eval (by kernel_rfl)) (fun h36 => ?_) (fun h36 => ?_)
 · skip
   have h36 := bne_iff_ne.1 h36
   first
   | (exfalso; clear hA hW; omega)
   | (exfalso; clear hA hW; exact absurd (hR_.wd frm) h36; done)
   | (
     refine wpIn_seq ?_
     refine wpIn_region_lit ?_
     refine stF hA (by kernel_rfl) (by kernel_rfl) (by kernel_rfl) (by kernel_rfl) (RunsF.of (Runs.store (v := Value.bool false) (b := b5) (j := 0) (n := 1) (cs' := #[Value.bool false]) (H' := [Cel br1_7 #[Value.slice Aor1_2 (g0r1_2).length cor1_2] 22, rowR 28 1 enU4 (Value.slice Aor1_6 (g0r1_6).length cor1_6) g0r1_6, rowR 28 1 enU4 (Value.slice Aor1_4 (g0r1_4).length cor1_4) g0r1_4, Cel b5 #[Value.bool false] 4, Cel b3 #[Value.int .i64 many] 3, Cel b1 #[Value.slice A_L L.length c_L] 38]) (by kernel_rfl) (by kernel_rfl) (by kernel_rfl) (by kernel_rfl) (by kernel_rfl) hW 3 (by rfl) (Nat.le_of_ble_eq_true (by kernel_rfl)) (by kernel_rfl) (by rfl) ?_)); clear hA ac hW; intro w37 hW ac hA
     refine wpListIn_nil ?_
     refine thenN ?_
     refine wpIn_ret ?_
     refine thenR ?_
     refine retF (.inl rfl) hA ?_
     refine leave1 (v := Value.bool false) (by rfl) (GotF.cell (b := b5) (i := 0) hA (by kernel_rfl) (by kernel_rfl) (hW.cel 3 rfl) (by kernel_rfl)) ?_
     clear hA
     exact ⟨retv (by (refine congrArg Value.bool (beq_iff_eq.2 ?_); omega)), hW.fr⟩)
 · skip
   have h36 := of_bne_f h36
   first
   | (exfalso; clear hA hW; omega)
   | (exfalso; clear hA hW; exact absurd (hR_.wd frm) h36; done)
   | (
     refine wpIn_skip ?_
     refine thenN ?_
     refine wpIn_seq ?_
     refine wpIn_seq ?_
     refine wpIn_region_lit ?_
     refine st_rdF (v := Value.int .i64 0) hA (by kernel_rfl) (by kernel_rfl) (by kernel_rfl) (by kernel_rfl) hW.cls (Rd.pure fun _ => by kernel_rfl) ?_; clear hA ac; intro ac hA
     refine wpListIn_nil ?_
     refine thenN ?_
     refine wpIn_block ?_
     refine wpIn_loop_m (fun m_ ac_ wl_ => ∃ i : Nat, m_ = g0r1_4.length - i ∧ (i ≤ g0r1_4.length) ∧ Fm 105 [] [(0, Value.pointer (some ⟨m, 0, none⟩)), (5, Value.pointer (some ⟨b1, 0, none⟩)), (7, Value.pointer (some ⟨b3, 0, none⟩)), (8, Value.pointer (some ⟨b5, 0, none⟩)), (9, Value.pointer (some ⟨br1_7, 0, none⟩)), (10, Value.slice Aor1_4 (g0r1_4).length cor1_4), (11, Value.slice Aor1_6 (g0r1_6).length cor1_6), (12, Value.func (.func 35) #[] lb27), (13, Value.int .i64 ((i : Nat) : Int))] ac_ ∧ Ws w No [Cel br1_7 #[Value.slice Aor1_2 (g0r1_2).length cor1_2] 22, rowR 28 1 enU4 (Value.slice Aor1_6 (g0r1_6).length cor1_6) g0r1_6, rowR 28 1 enU4 (Value.slice Aor1_4 (g0r1_4).length cor1_4) g0r1_4, Cel b5 #[Value.bool false] 4, Cel b3 #[Value.int .i64 many] 3, Cel b1 #[Value.slice A_L L.length c_L] 38] [g28, roR Aor1_2 2 enCell6 g0r1_2, MemR m b V, roR A_L 2 enCell6 L] wl_) _ ⟨0, rfl, by omega, hA.sub ⟨⟨by kernel_rfl, by kernel_rfl⟩, ⟨by kernel_rfl, by kernel_rfl⟩, ⟨by kernel_rfl, by kernel_rfl⟩, ⟨by kernel_rfl, by kernel_rfl⟩, ⟨by kernel_rfl, by kernel_rfl⟩, ⟨by kernel_rfl, by kernel_rfl⟩, ⟨by kernel_rfl, by kernel_rfl⟩, ⟨by kernel_rfl, by kernel_rfl⟩, ⟨by kernel_rfl, by kernel_rfl⟩, trivial⟩, (hW.pick [0, 1, 2, 3, 4, 5] (by decide) rfl).pickG [0, 1, 2, 3] rfl⟩ ?_
     clear hA ac hW; rintro m_ ac w38 ⟨i, rfl, hi, hA, hW⟩
     refine wpIn_seq ?_
     refine wpIn_seq ?_
     refine wpIn_region_lit ?_
     refine st_rdF (v := Value.int .i64 ((i : Nat) : Int)) hA (by kernel_rfl) (by kernel_rfl) (by kernel_rfl) (by kernel_rfl) hW.cls (Rd.pure fun _ => by kernel_rfl) ?_; clear hA ac; intro ac hA
     refine st_rdF (v := Value.slice Aor1_4 (g0r1_4).length cor1_4) hA (by kernel_rfl) (by kernel_rfl) (by kernel_rfl) (by kernel_rfl) hW.cls (Rd.pure fun _ => by kernel_rfl) ?_; clear hA ac; intro ac hA
     refine st_rdF (v := Value.int .i64 (((g0r1_4).length : Nat) : Int)) hA (by kernel_rfl) (by kernel_rfl) (by kernel_rfl) (by kernel_rfl) hW.cls (Rd.pure fun _ => by kernel_rfl) ?_; clear hA ac; intro ac hA
     refine st_rdF (v := Value.bool (decide ((((i : Nat) : Int) : Int) < ((((g0r1_4).length : Nat) : Int) : Int)))) hA (by kernel_rfl) (by kernel_rfl) (by kernel_rfl) (by kernel_rfl) hW.cls (Rd.pure fun _ => by kernel_rfl) ?_; clear hA ac; intro ac hA
     refine wpListIn_nil ?_
     refine thenN ?_
     refine wpIn_cond_split (t := decide ((((i : Nat) : Int) : Int) < ((((g0r1_4).length : Nat) : Int) : Int))) (hA.eval (by kernel_rfl)) (fun h39 => ?_) (fun h39 => ?_)
     · skip
       have h39 := of_decide_eq_true h39
       first
       | (exfalso; clear hA hW; omega)
       | (exfalso; clear hA hW; exact absurd (hR_.wd frm) h39; done)
       | (
         refine wpIn_skip ?_
         refine thenN ?_
         refine wpIn_seq ?_
         refine wpIn_block ?_
         refine wpIn_seq ?_
         refine q_regionF (by kernel_rfl) (by kernel_rfl) (by kernel_rfl) hW ?_
         refine sq_rd (v := Value.slice Aor1_4 (g0r1_4).length cor1_4) hA (by kernel_rfl) (by kernel_rfl) (by kernel_rfl) (Rd.pure fun _ => by kernel_rfl) ?_; clear hA ac; intro ac hA
         refine sq_rd (v := Value.int .i64 ((i : Nat) : Int)) hA (by kernel_rfl) (by kernel_rfl) (by kernel_rfl) (Rd.pure fun _ => by kernel_rfl) ?_; clear hA ac; intro ac hA
         obtain ⟨y40, hy40⟩ : ∃ y, g0r1_4[i]? = some y := ⟨_, List.getElem?_eq_getElem (by first | omega | (simp; done) | (simp; omega))⟩
         obtain ⟨b41, o42, rfl, hbb41⟩ := row_some (rowR_at ((hW).get 2 rfl) elt_U4.len) hy40
         refine sq_rd (v := Value.pointer (some ⟨b41, o42 + i * 1, none⟩)) hA (by kernel_rfl) (by kernel_rfl) (by kernel_rfl) (Rd.indexAddr (e := 28) (sz := 1) (b := b41) (off := o42) (n := (g0r1_4).length) (c := cor1_4) (k := i) (by kernel_rfl) (by kernel_rfl) (by first | omega | (simp; done) | (simp; omega)) (fun _ => by kernel_rfl) (fun _ => by kernel_rfl)) ?_; clear hA ac; intro ac hA
         refine sq_rd (v := Value.int .u32 y40) hA (by kernel_rfl) (by kernel_rfl) (by kernel_rfl) (Rd.loadRow (b := b41) (i := o42 + i * 1) (xs := [Value.int .u32 y40]) (by kernel_rfl) (fun _ hw => row_ld (rowR_at ((hw.1).get 2 rfl) elt_U4.len) hy40 (Fr.refl No _) (fun h => h) 0 1 (by kernel_rfl)) (by kernel_rfl)) ?_; clear hA ac; intro ac hA
         refine sq_rd (v := Value.slice Aor1_6 (g0r1_6).length cor1_6) hA (by kernel_rfl) (by kernel_rfl) (by kernel_rfl) (Rd.pure fun _ => by kernel_rfl) ?_; clear hA ac; intro ac hA
         refine sq_rd (v := Value.int .i64 ((i : Nat) : Int)) hA (by kernel_rfl) (by kernel_rfl) (by kernel_rfl) (Rd.pure fun _ => by kernel_rfl) ?_; clear hA ac; intro ac hA
         obtain ⟨y43, hy43⟩ : ∃ y, g0r1_6[i]? = some y := ⟨_, List.getElem?_eq_getElem (by first | omega | (simp; done) | (simp; omega))⟩
         obtain ⟨b44, o45, rfl, hbb44⟩ := row_some (rowR_at ((hW).get 1 rfl) elt_U4.len) hy43
         refine sq_rd (v := Value.pointer (some ⟨b44, o45 + i * 1, none⟩)) hA (by kernel_rfl) (by kernel_rfl) (by kernel_rfl) (Rd.indexAddr (e := 28) (sz := 1) (b := b44) (off := o45) (n := (g0r1_6).length) (c := cor1_6) (k := i) (by kernel_rfl) (by kernel_rfl) (by first | omega | (simp; done) | (simp; omega)) (fun _ => by kernel_rfl) (fun _ => by kernel_rfl)) ?_; clear hA ac; intro ac hA
         refine sq_rd (v := Value.int .u32 y43) hA (by kernel_rfl) (by kernel_rfl) (by kernel_rfl) (Rd.loadRow (b := b44) (i := o45 + i * 1) (xs := [Value.int .u32 y43]) (by kernel_rfl) (fun _ hw => row_ld (rowR_at ((hw.1).get 1 rfl) elt_U4.len) hy43 (Fr.refl No _) (fun h => h) 0 1 (by kernel_rfl)) (by kernel_rfl)) ?_; clear hA ac; intro ac hA
         refine sq_rd (v := Value.bool ((y40 : Int) != (y43 : Int))) hA (by kernel_rfl) (by kernel_rfl) (by kernel_rfl) (Rd.pure fun _ => by kernel_rfl) ?_; clear hA ac; intro ac hA
         refine sq_nil ?_; intro w46 hww46; have hW := hww46.1; have hfw46 := hww46.2; clear hww46
         refine thenN ?_
         refine wpIn_cond_split (t := (y40 : Int) != (y43 : Int)) (hA.eval (by kernel_rfl)) (fun h47 => ?_) (fun h47 => ?_)
         · skip
           have h47 := bne_iff_ne.1 h47
           first
           | (exfalso; clear hA hW; omega)
           | (exfalso; clear hA hW; exact absurd (hR_.wd frm) h47; done)
           | (exfalso; clear hA hW; exact absurd (Option.some.inj (hy40.symm.trans (by rw [hpg_]; exact hy43))) h47; done)
           | (
             refine wpIn_seq ?_
             refine wpIn_region_lit ?_
             refine stF hA (by kernel_rfl) (by kernel_rfl) (by kernel_rfl) (by kernel_rfl) (RunsF.of (Runs.store (v := Value.bool false) (b := b5) (j := 0) (n := 1) (cs' := #[Value.bool false]) (H' := [Cel br1_7 #[Value.slice Aor1_2 (g0r1_2).length cor1_2] 22, rowR 28 1 enU4 (Value.slice (some ⟨b44, o45, none⟩) (g0r1_6).length cor1_6) g0r1_6, rowR 28 1 enU4 (Value.slice (some ⟨b41, o42, none⟩) (g0r1_4).length cor1_4) g0r1_4, Cel b5 #[Value.bool false] 4, Cel b3 #[Value.int .i64 many] 3, Cel b1 #[Value.slice A_L L.length c_L] 38]) (by kernel_rfl) (by kernel_rfl) (by kernel_rfl) (by kernel_rfl) (by kernel_rfl) hW 3 (by rfl) (Nat.le_of_ble_eq_true (by kernel_rfl)) (by kernel_rfl) (by rfl) ?_)); clear hA ac hW; intro w48 hW ac hA
             refine wpListIn_nil ?_
             refine thenN ?_
             refine wpIn_ret ?_
             refine blkR ?_
             refine thenR ?_
             refine thenR ?_
             refine blkR ?_
             refine thenR ?_
             refine retF (.inl rfl) hA ?_
             refine leave1 (v := Value.bool false) (by rfl) (GotF.cell (b := b5) (i := 0) hA (by kernel_rfl) (by kernel_rfl) (hW.cel 3 rfl) (by kernel_rfl)) ?_
             clear hA
             exact ⟨retv (by (refine congrArg Value.bool (beq_iff_eq.2 ?_); omega)), hW.fr⟩)
         · skip
           have h47 := of_bne_f h47
           first
           | (exfalso; clear hA hW; omega)
           | (exfalso; clear hA hW; exact absurd (hR_.wd frm) h47; done)
           | (exfalso; clear hA hW; exact absurd (Option.some.inj (hy40.symm.trans (by rw [hpg_]; exact hy43))) h47; done)
           | (
             refine wpIn_skip ?_
             refine blkN ?_
             refine thenN ?_
             refine wpIn_region_lit ?_
             refine st_rdF (v := Value.int .i64 ((i : Nat) : Int)) hA (by kernel_rfl) (by kernel_rfl) (by kernel_rfl) (by kernel_rfl) hW.cls (Rd.pure fun _ => by kernel_rfl) ?_; clear hA ac; intro ac hA
             refine st_rdF (v := Value.int .i64 ((i + 1 : Nat) : Int)) hA (by kernel_rfl) (by kernel_rfl) (by kernel_rfl) (by kernel_rfl) hW.cls (Rd.pureE (v0 := Value.int .i64 (IntKind.i64.wrap ((((i : Nat) : Int) : Int) + 1))) (fun _ => by kernel_rfl) (congrArg (Value.int .i64) ((w_i64 (x := (((i : Nat) : Int) : Int) + 1) (by omega) (by omega)).trans (by omega)))) ?_; clear hA ac; intro ac hA
             refine st_rdF (v := Value.int .i64 ((i + 1 : Nat) : Int)) hA (by kernel_rfl) (by kernel_rfl) (by kernel_rfl) (by kernel_rfl) hW.cls (Rd.pure fun _ => by kernel_rfl) ?_; clear hA ac; intro ac hA
             refine wpListIn_nil ?_
             refine thenN ?_
             exact ⟨g0r1_4.length - (i + 1), by omega, i + 1, rfl, by omega, hA.sub ⟨⟨by kernel_rfl, by kernel_rfl⟩, ⟨by kernel_rfl, by kernel_rfl⟩, ⟨by kernel_rfl, by kernel_rfl⟩, ⟨by kernel_rfl, by kernel_rfl⟩, ⟨by kernel_rfl, by kernel_rfl⟩, ⟨by kernel_rfl, by kernel_rfl⟩, ⟨by kernel_rfl, by kernel_rfl⟩, ⟨by kernel_rfl, by kernel_rfl⟩, ⟨by kernel_rfl, by kernel_rfl⟩, trivial⟩, (hW.pick [0, 1, 2, 3, 4, 5] (by decide) rfl).pickG [0, 1, 2, 3] rfl⟩))
     · skip
       have h39 := of_decide_eq_false h39
       first
       | (exfalso; clear hA hW; omega)
       | (exfalso; clear hA hW; exact absurd (hR_.wd frm) h39; done)
       | (
         refine wpIn_exit ?_
         refine thenX ?_
         refine thenX ?_
         refine blkX ?_
         refine thenN ?_
         refine wpIn_seq ?_
         refine wpIn_region_lit ?_
         refine stF hA (by kernel_rfl) (by kernel_rfl) (by kernel_rfl) (by kernel_rfl) (RunsF.of (Runs.cells (fun b => Value.pointer (some ⟨b, 0, none⟩)) #[Value.int .i64 0] 3 (fun _ => by kernel_rfl) hW ?_)); clear hA ac hW; intro b49 w50 hW hb49 hfw50 ac hA
         refine stF hA (by kernel_rfl) (by kernel_rfl) (by kernel_rfl) (by kernel_rfl) (RunsF.of (Runs.store (v := Value.int .i64 0) (b := b49) (j := 0) (n := 1) (cs' := #[Value.int .i64 0]) (H' := [Cel b49 #[Value.int .i64 0] 3, Cel br1_7 #[Value.slice Aor1_2 (g0r1_2).length cor1_2] 22, rowR 28 1 enU4 (Value.slice Aor1_6 (g0r1_6).length cor1_6) g0r1_6, rowR 28 1 enU4 (Value.slice Aor1_4 (g0r1_4).length cor1_4) g0r1_4, Cel b5 #[Value.bool false] 4, Cel b3 #[Value.int .i64 many] 3, Cel b1 #[Value.slice A_L L.length c_L] 38]) (by kernel_rfl) (by kernel_rfl) (by kernel_rfl) (by kernel_rfl) (by kernel_rfl) hW 0 (by rfl) (Nat.le_of_ble_eq_true (by kernel_rfl)) (by kernel_rfl) (by rfl) ?_)); clear hA ac hW; intro w51 hW ac hA
         refine wpListIn_nil ?_
         refine thenN ?_
         refine wpIn_seq ?_
         refine wpIn_seq ?_
         refine wpIn_region_lit ?_
         refine st_rdF (v := Value.func (.func 35) #[] lb27) hA (by kernel_rfl) (by kernel_rfl) (by kernel_rfl) (by kernel_rfl) hW.cls (Rd.pure fun _ => by kernel_rfl) ?_; clear hA ac; intro ac hA
         refine wpListIn_nil ?_
         refine thenN ?_
         refine wpIn_block ?_
         refine wp_range (encs := (fun x_ : Cell6 => #[Value.int .u32 x_.addr, Value.int .u32 x_.word])) (Sx := (fun l_ : List Cell6 => ∃ ks : List Int, ks.Perm (keys (vals V)) ∧ (ks.Pairwise fun x y => x ≤ y) ∧ l_ = cellsOf (vals V) (frm) ks)) hA (by kernel_rfl) (by kernel_rfl) (enters_of Try.func35 (by kernel_rfl) rfl) (by kernel_rfl) (fun _ => rfl) hIg28 (List.forall_mem_singleton.2 (List.mem_of_getElem? (i := 0) rfl)) (fun pre_ H_ => ∃ n : Int, True ∧ (n = (pre_.length : Nat)) ∧ (n = 0 ∨ n < many) ∧ H_ = [Cel b49 #[Value.int .i64 n] 3, Cel br1_7 #[Value.slice Aor1_2 (g0r1_2).length cor1_2] 22, Cel b3 #[Value.int .i64 many] 3]) (fun c_ _ H_ => (c_ = .exit 2 ∧ ∃ n : Int, (n ≤ g0r1_2.length ∧ n ≥ many ∧ 1 ≤ n ∧ (n = 1 ∨ n ≤ many)) ∧ H_ = [Cel b49 #[Value.int .i64 n] 3, Cel br1_7 #[Value.slice Aor1_2 (g0r1_2).length cor1_2] 22, Cel b3 #[Value.int .i64 many] 3])) (H := [Cel b49 #[Value.int .i64 0] 3, Cel br1_7 #[Value.slice Aor1_2 (g0r1_2).length cor1_2] 22, Cel b3 #[Value.int .i64 many] 3]) (K := [rowR 28 1 enU4 (Value.slice Aor1_6 (g0r1_6).length cor1_6) g0r1_6, rowR 28 1 enU4 (Value.slice Aor1_4 (g0r1_4).length cor1_4) g0r1_4, Cel b5 #[Value.bool false] 4, Cel b1 #[Value.slice A_L L.length c_L] 38]) (hW.pick [0, 1, 5, 2, 3, 4, 6] (by decide) rfl) ⟨0, trivial, by rfl, by omega, rfl⟩ ?_ ?_ ?_
         · skip
           clear hA ac hW; intro l_52 rd_52 bs_52 pre_ x_ Hk_ w53 T_52 ac hrd_52 hbs_52 hbr_52 hok_ hJ_ hA hW hB_52 hT_52
           obtain ⟨n, _, hn, hm, rfl⟩ := hJ_
           obtain ⟨y54, h_⟩ : ∃ y_, y_ = x_ := ⟨_, rfl⟩; subst h_
           replace hA : Fm 105 [] [(0, Value.pointer (some ⟨m, 0, none⟩)), (5, Value.pointer (some ⟨b1, 0, none⟩)), (7, Value.pointer (some ⟨b3, 0, none⟩)), (8, Value.pointer (some ⟨b5, 0, none⟩)), (9, Value.pointer (some ⟨br1_7, 0, none⟩)), (10, Value.slice Aor1_4 (g0r1_4).length cor1_4), (11, Value.slice Aor1_6 (g0r1_6).length cor1_6), (12, Value.func (.func 35) #[] lb27), (13, Value.int .i64 ((i : Nat) : Int)), (14, Value.pointer (some ⟨b49, 0, none⟩)), (53, Value.int .i64 ((i : Nat) : Int)), (54, Value.slice Aor1_4 (g0r1_4).length cor1_4), (55, Value.int .i64 (((g0r1_4).length : Nat) : Int)), (56, Value.bool (decide ((((i : Nat) : Int) : Int) < ((((g0r1_4).length : Nat) : Int) : Int)))), (68, Value.func (.func 35) #[] lb27), (69, Value.int .u32 y54.addr), (70, Value.int .u32 y54.word)] ac := hA.sub ⟨⟨by kernel_rfl, by kernel_rfl⟩, ⟨by kernel_rfl, by kernel_rfl⟩, ⟨by kernel_rfl, by kernel_rfl⟩, ⟨by kernel_rfl, by kernel_rfl⟩, ⟨by kernel_rfl, by kernel_rfl⟩, ⟨by kernel_rfl, by kernel_rfl⟩, ⟨by kernel_rfl, by kernel_rfl⟩, ⟨by kernel_rfl, by kernel_rfl⟩, ⟨by kernel_rfl, by kernel_rfl⟩, ⟨by kernel_rfl, by kernel_rfl⟩, ⟨by kernel_rfl, by kernel_rfl⟩, ⟨by kernel_rfl, by kernel_rfl⟩, ⟨by kernel_rfl, by kernel_rfl⟩, ⟨by kernel_rfl, by kernel_rfl⟩, ⟨by kernel_rfl, by kernel_rfl⟩, ⟨by kernel_rfl, by kernel_rfl⟩, ⟨by kernel_rfl, by kernel_rfl⟩, trivial⟩
           have he_ := hR_.comes hok_; rw [← hr1_2_hF] at he_; have hlt_ := (List.getElem?_eq_some_iff.1 he_).1; have hll_ : g0r1_2.length ≤ L.length := by rw [hr1_2_hF]; exact fromM_len _ _
           refine wpIn_seq ?_
           refine wpIn_region_lit ?_
           refine st_rdF (v := Value.int .u32 y54.addr) hA (by kernel_rfl) (by kernel_rfl) (by kernel_rfl) (by kernel_rfl) hW.cls (Rd.pure fun _ => by kernel_rfl) ?_; clear hA ac; intro ac hA
           refine wpListIn_nil ?_
           refine thenN ?_
           refine wpIn_region_lit ?_
           refine st_rdF (v := Value.int .u32 y54.word) hA (by kernel_rfl) (by kernel_rfl) (by kernel_rfl) (by kernel_rfl) hW.cls (Rd.pure fun _ => by kernel_rfl) ?_; clear hA ac; intro ac hA
           refine wpListIn_nil ?_
           refine thenN ?_
           refine begun (bs := bs_52) (H' := [bs_52, Cel b49 #[Value.int .i64 n] 3, Cel br1_7 #[Value.slice Aor1_2 (g0r1_2).length cor1_2] 22, Cel b3 #[Value.int .i64 many] 3]) hW 0 rfl (fun b hb => by rw [hbs_52] at hb; rw [hrd_52]; exact hb) rfl ?_; clear hW; intro w55 hW
           refine wpIn_block ?_
           refine wpIn_seq ?_
           refine wpIn_seq ?_
           refine wpIn_region_lit ?_
           refine st_rdF (v := Value.int .i64 n) hA (by kernel_rfl) (by kernel_rfl) (by kernel_rfl) (by kernel_rfl) hW.cls (Rd.load (b := b49) (i := 0) (by kernel_rfl) (fun _ hw => (hw.1).cel 1 rfl) (by kernel_rfl)) ?_; clear hA ac; intro ac hA
           refine st_rdF (v := Value.slice Aor1_2 (g0r1_2).length cor1_2) hA (by kernel_rfl) (by kernel_rfl) (by kernel_rfl) (by kernel_rfl) hW.cls (Rd.load (b := br1_7) (i := 0) (by kernel_rfl) (fun _ hw => (hw.1).cel 2 rfl) (by kernel_rfl)) ?_; clear hA ac; intro ac hA
           refine st_rdF (v := Value.int .i64 (((g0r1_2).length : Nat) : Int)) hA (by kernel_rfl) (by kernel_rfl) (by kernel_rfl) (by kernel_rfl) hW.cls (Rd.pure fun _ => by kernel_rfl) ?_; clear hA ac; intro ac hA
           refine st_rdF (v := Value.bool (decide ((n : Int) ≥ ((((g0r1_2).length : Nat) : Int) : Int)))) hA (by kernel_rfl) (by kernel_rfl) (by kernel_rfl) (by kernel_rfl) hW.cls (Rd.pure fun _ => by kernel_rfl) ?_; clear hA ac; intro ac hA
           refine st_rdF (v := Value.bool (decide ((n : Int) ≥ ((((g0r1_2).length : Nat) : Int) : Int)))) hA (by kernel_rfl) (by kernel_rfl) (by kernel_rfl) (by kernel_rfl) hW.cls (Rd.pure fun _ => by kernel_rfl) ?_; clear hA ac; intro ac hA
           rcases Bool.eq_false_or_eq_true (decide ((n : Int) ≥ ((((g0r1_2).length : Nat) : Int) : Int))) with h56 | h56
           · skip
             rw [h56] at hA
             have h56 := of_decide_eq_true h56
             first
             | (exfalso; clear hA hW; omega)
             | (exfalso; clear hA hW; exact absurd (hR_.wd frm) h56; done)
             | (
               fail)
           · skip
             rw [h56] at hA
             have h56 := of_decide_eq_false h56
             first
             | (exfalso; clear hA hW; omega)
             | (exfalso; clear hA hW; exact absurd (hR_.wd frm) h56; done)
             | (
               refine st_rdF (v := Value.int .u32 y54.addr) hA (by kernel_rfl) (by kernel_rfl) (by kernel_rfl) (by kernel_rfl) hW.cls (Rd.pure fun _ => by kernel_rfl) ?_; clear hA ac; intro ac hA
               refine st_rdF (v := Value.slice Aor1_2 (g0r1_2).length cor1_2) hA (by kernel_rfl) (by kernel_rfl) (by kernel_rfl) (by kernel_rfl) hW.cls (Rd.load (b := br1_7) (i := 0) (by kernel_rfl) (fun _ hw => (hw.1).cel 2 rfl) (by kernel_rfl)) ?_; clear hA ac; intro ac hA
               refine st_rdF (v := Value.int .i64 n) hA (by kernel_rfl) (by kernel_rfl) (by kernel_rfl) (by kernel_rfl) hW.cls (Rd.load (b := b49) (i := 0) (by kernel_rfl) (fun _ hw => (hw.1).cel 1 rfl) (by kernel_rfl)) ?_; clear hA ac; intro ac hA
               obtain ⟨y57, hy57⟩ : ∃ y, g0r1_2[Int.toNat (n)]? = some y := ⟨_, List.getElem?_eq_getElem (by first | omega | (simp; done) | (simp; omega))⟩
               obtain ⟨b58, o59, rfl, hbb58⟩ := row_some ((hW).getG 1 rfl) hy57
               refine st_rdF (v := Value.pointer (some ⟨b58, o59 + (Int.toNat (n)) * 2, none⟩)) hA (by kernel_rfl) (by kernel_rfl) (by kernel_rfl) (by kernel_rfl) hW.cls (Rd.indexAddrI (e := 30) (sz := 2) (b := b58) (off := o59) (n := (g0r1_2).length) (c := cor1_2) (k := n) (by kernel_rfl) (by kernel_rfl) (by omega) (by first | omega | (simp; done) | (simp; omega)) (fun _ => by kernel_rfl) (fun _ => by kernel_rfl)) ?_; clear hA ac; intro ac hA
               refine st_rdF (v := Value.pointer (some ⟨b58, o59 + (Int.toNat (n)) * 2, none⟩)) hA (by kernel_rfl) (by kernel_rfl) (by kernel_rfl) (by kernel_rfl) hW.cls (Rd.pure fun _ => by kernel_rfl) ?_; clear hA ac; intro ac hA
               refine st_rdF (v := Value.int .u32 y57.addr) hA (by kernel_rfl) (by kernel_rfl) (by kernel_rfl) (by kernel_rfl) hW.cls (Rd.loadRow (b := b58) (i := o59 + (Int.toNat (n)) * 2) (xs := [Value.int .u32 y57.addr]) (by kernel_rfl) (fun _ hw => row_ld ((hw.1).getG 1 rfl) hy57 (Fr.refl No _) (fun h => h) 0 1 (by kernel_rfl)) (by kernel_rfl)) ?_; clear hA ac; intro ac hA
               refine st_rdF (v := Value.bool ((y54.addr : Int) != (y57.addr : Int))) hA (by kernel_rfl) (by kernel_rfl) (by kernel_rfl) (by kernel_rfl) hW.cls (Rd.pure fun _ => by kernel_rfl) ?_; clear hA ac; intro ac hA
               refine st_rdF (v := Value.bool ((y54.addr : Int) != (y57.addr : Int))) hA (by kernel_rfl) (by kernel_rfl) (by kernel_rfl) (by kernel_rfl) hW.cls (Rd.pure fun _ => by kernel_rfl) ?_; clear hA ac; intro ac hA
               refine st_rdF (v := Value.bool ((y54.addr : Int) != (y57.addr : Int))) hA (by kernel_rfl) (by kernel_rfl) (by kernel_rfl) (by kernel_rfl) hW.cls (Rd.pure fun _ => by kernel_rfl) ?_; clear hA ac; intro ac hA
               rcases Bool.eq_false_or_eq_true ((y54.addr : Int) != (y57.addr : Int)) with h60 | h60
               · skip
                 rw [h60] at hA
                 have h60 := bne_iff_ne.1 h60
                 first
                 | (exfalso; clear hA hW; omega)
                 | (exfalso; clear hA hW; exact absurd (hR_.wd frm) h60; done)
                 | (exfalso; clear hA hW; have hye_ : y57 = y54 := Option.some.inj (hy57.symm.trans (by rw [show (Int.toNat n) = pre_.length from by omega]; exact he_)); rw [hye_] at h60; first | exact h60 rfl | omega; done)
                 | (
                   fail)
               · skip
                 rw [h60] at hA
                 have h60 := of_bne_f h60
                 first
                 | (exfalso; clear hA hW; omega)
                 | (exfalso; clear hA hW; exact absurd (hR_.wd frm) h60; done)
                 | (exfalso; clear hA hW; have hye_ : y57 = y54 := Option.some.inj (hy57.symm.trans (by rw [show (Int.toNat n) = pre_.length from by omega]; exact he_)); rw [hye_] at h60; first | exact h60 rfl | omega; done)
                 | (
                   refine st_rdF (v := Value.int .u32 y54.word) hA (by kernel_rfl) (by kernel_rfl) (by kernel_rfl) (by kernel_rfl) hW.cls (Rd.pure fun _ => by kernel_rfl) ?_; clear hA ac; intro ac hA
                   refine st_rdF (v := Value.slice (some ⟨b58, o59, none⟩) (g0r1_2).length cor1_2) hA (by kernel_rfl) (by kernel_rfl) (by kernel_rfl) (by kernel_rfl) hW.cls (Rd.load (b := br1_7) (i := 0) (by kernel_rfl) (fun _ hw => (hw.1).cel 2 rfl) (by kernel_rfl)) ?_; clear hA ac; intro ac hA
                   refine st_rdF (v := Value.int .i64 n) hA (by kernel_rfl) (by kernel_rfl) (by kernel_rfl) (by kernel_rfl) hW.cls (Rd.load (b := b49) (i := 0) (by kernel_rfl) (fun _ hw => (hw.1).cel 1 rfl) (by kernel_rfl)) ?_; clear hA ac; intro ac hA
                   refine st_rdF (v := Value.pointer (some ⟨b58, o59 + (Int.toNat (n)) * 2, none⟩)) hA (by kernel_rfl) (by kernel_rfl) (by kernel_rfl) (by kernel_rfl) hW.cls (Rd.indexAddrI (e := 30) (sz := 2) (b := b58) (off := o59) (n := (g0r1_2).length) (c := cor1_2) (k := n) (by kernel_rfl) (by kernel_rfl) (by omega) (by first | omega | (simp; done) | (simp; omega)) (fun _ => by kernel_rfl) (fun _ => by kernel_rfl)) ?_; clear hA ac; intro ac hA
                   refine st_rdF (v := Value.pointer (some ⟨b58, o59 + (Int.toNat (n)) * 2 + 1, none⟩)) hA (by kernel_rfl) (by kernel_rfl) (by kernel_rfl) (by kernel_rfl) hW.cls (Rd.pure fun _ => by kernel_rfl) ?_; clear hA ac; intro ac hA
                   refine st_rdF (v := Value.int .u32 y57.word) hA (by kernel_rfl) (by kernel_rfl) (by kernel_rfl) (by kernel_rfl) hW.cls (Rd.loadRow (b := b58) (i := o59 + (Int.toNat (n)) * 2 + 1) (xs := [Value.int .u32 y57.word]) (by kernel_rfl) (fun _ hw => row_ld ((hw.1).getG 1 rfl) hy57 (Fr.refl No _) (fun h => h) 1 1 (by kernel_rfl)) (by kernel_rfl)) ?_; clear hA ac; intro ac hA
                   refine st_rdF (v := Value.bool ((y54.word : Int) != (y57.word : Int))) hA (by kernel_rfl) (by kernel_rfl) (by kernel_rfl) (by kernel_rfl) hW.cls (Rd.pure fun _ => by kernel_rfl) ?_; clear hA ac; intro ac hA
                   refine st_rdF (v := Value.bool ((y54.word : Int) != (y57.word : Int))) hA (by kernel_rfl) (by kernel_rfl) (by kernel_rfl) (by kernel_rfl) hW.cls (Rd.pure fun _ => by kernel_rfl) ?_; clear hA ac; intro ac hA
                   refine wpListIn_nil ?_
                   refine thenN ?_
                   refine wpIn_cond_split (t := (y54.word : Int) != (y57.word : Int)) (hA.eval (by kernel_rfl)) (fun h61 => ?_) (fun h61 => ?_)
                   · skip
                     have h61 := bne_iff_ne.1 h61
                     first
                     | (exfalso; clear hA hW; omega)
                     | (exfalso; clear hA hW; exact absurd (hR_.wd frm) h61; done)
                     | (exfalso; clear hA hW; have hye_ : y57 = y54 := Option.some.inj (hy57.symm.trans (by rw [show (Int.toNat n) = pre_.length from by omega]; exact he_)); rw [hye_] at h61; first | exact h61 rfl | omega; done)
                     | (
                       fail)
                   · skip
                     have h61 := of_bne_f h61
                     first
                     | (exfalso; clear hA hW; omega)
                     | (exfalso; clear hA hW; exact absurd (hR_.wd frm) h61; done)
                     | (exfalso; clear hA hW; have hye_ : y57 = y54 := Option.some.inj (hy57.symm.trans (by rw [show (Int.toNat n) = pre_.length from by omega]; exact he_)); rw [hye_] at h61; first | exact h61 rfl | omega; done)
                     | (
                       refine wpIn_skip ?_
                       refine thenN ?_
                       refine wpIn_seq ?_
                       refine wpIn_region_lit ?_
                       refine st_rdF (v := Value.int .i64 n) hA (by kernel_rfl) (by kernel_rfl) (by kernel_rfl) (by kernel_rfl) hW.cls (Rd.load (b := b49) (i := 0) (by kernel_rfl) (fun _ hw => (hw.1).cel 1 rfl) (by kernel_rfl)) ?_; clear hA ac; intro ac hA
                       refine st_rdF (v := Value.int .i64 ((n : Int) + 1)) hA (by kernel_rfl) (by kernel_rfl) (by kernel_rfl) (by kernel_rfl) hW.cls (Rd.pureE (v0 := Value.int .i64 (IntKind.i64.wrap ((n : Int) + 1))) (fun _ => by kernel_rfl) (congrArg (Value.int .i64) ((w_i64 (x := (n : Int) + 1) (by omega) (by omega)).trans (by omega)))) ?_; clear hA ac; intro ac hA
                       refine stF hA (by kernel_rfl) (by kernel_rfl) (by kernel_rfl) (by kernel_rfl) (RunsF.of (Runs.store (v := Value.int .i64 ((n : Int) + 1)) (b := b49) (j := 0) (n := 1) (cs' := #[Value.int .i64 ((n : Int) + 1)]) (H' := [bs_52, Cel b49 #[Value.int .i64 ((n : Int) + 1)] 3, Cel br1_7 #[Value.slice (some ⟨b58, o59, none⟩) (g0r1_2).length cor1_2] 22, Cel b3 #[Value.int .i64 many] 3]) (by kernel_rfl) (by kernel_rfl) (by kernel_rfl) (by kernel_rfl) (by kernel_rfl) hW 1 (by rfl) (Nat.le_of_ble_eq_true (by kernel_rfl)) (by kernel_rfl) (by rfl) ?_)); clear hA ac hW; intro w62 hW ac hA
                       refine wpListIn_nil ?_
                       refine thenN ?_
                       refine wpIn_seq ?_
                       refine wpIn_region_lit ?_
                       refine st_rdF (v := Value.int .i64 ((n : Int) + 1)) hA (by kernel_rfl) (by kernel_rfl) (by kernel_rfl) (by kernel_rfl) hW.cls (Rd.load (b := b49) (i := 0) (by kernel_rfl) (fun _ hw => (hw.1).cel 1 rfl) (by kernel_rfl)) ?_; clear hA ac; intro ac hA
                       refine st_rdF (v := Value.int .i64 many) hA (by kernel_rfl) (by kernel_rfl) (by kernel_rfl) (by kernel_rfl) hW.cls (Rd.load (b := b3) (i := 0) (by kernel_rfl) (fun _ hw => (hw.1).cel 3 rfl) (by kernel_rfl)) ?_; clear hA ac; intro ac hA
                       refine st_rdF (v := Value.bool (decide (((n : Int) + 1 : Int) ≥ (many : Int)))) hA (by kernel_rfl) (by kernel_rfl) (by kernel_rfl) (by kernel_rfl) hW.cls (Rd.pure fun _ => by kernel_rfl) ?_; clear hA ac; intro ac hA
                       refine wpListIn_nil ?_
                       refine thenN ?_
                       refine wpIn_cond_split (t := decide (((n : Int) + 1 : Int) ≥ (many : Int))) (hA.eval (by kernel_rfl)) (fun h63 => ?_) (fun h63 => ?_)
                       · skip
                         have h63 := of_decide_eq_true h63
                         first
                         | (exfalso; clear hA hW; omega)
                         | (exfalso; clear hA hW; exact absurd (hR_.wd frm) h63; done)
                         | (exfalso; clear hA hW; have hye_ : y57 = y54 := Option.some.inj (hy57.symm.trans (by rw [show (Int.toNat n) = pre_.length from by omega]; exact he_)); rw [hye_] at h63; first | exact h63 rfl | omega; done)
                         | (
                           refine wpIn_exit ?_
                           refine blkY (by kernel_rfl) ?_
                           exact ⟨_, ⟨rfl, (n : Int) + 1, by omega, rfl⟩, (hW.pick [0, 1, 2, 3] (by decide) rfl).pickG [0, 1, 2, 3] rfl⟩)
                       · skip
                         have h63 := of_decide_eq_false h63
                         first
                         | (exfalso; clear hA hW; omega)
                         | (exfalso; clear hA hW; exact absurd (hR_.wd frm) h63; done)
                         | (exfalso; clear hA hW; have hye_ : y57 = y54 := Option.some.inj (hy57.symm.trans (by rw [show (Int.toNat n) = pre_.length from by omega]; exact he_)); rw [hye_] at h63; first | exact h63 rfl | omega; done)
                         | (
                           refine wpIn_skip ?_
                           refine blkN ?_
                           exact ⟨_, ⟨(n : Int) + 1, trivial, by simp; omega, by omega, rfl⟩, (hW.pick [0, 1, 2, 3] (by decide) rfl).pickG [0, 1, 2, 3] rfl⟩))))
         · skip
           clear hA ac hW; intro D64 pre_ Hk_ w65 ac hS_ hJ_ hA hW
           obtain ⟨n, _, hn, hm, rfl⟩ := hJ_
           replace hW : Ws w No [Cel b49 #[Value.int .i64 n] 3, Cel br1_7 #[Value.slice Aor1_2 (g0r1_2).length cor1_2] 22, Cel b3 #[Value.int .i64 many] 3, DefR D64, rowR 28 1 enU4 (Value.slice Aor1_6 (g0r1_6).length cor1_6) g0r1_6, rowR 28 1 enU4 (Value.slice Aor1_4 (g0r1_4).length cor1_4) g0r1_4, Cel b5 #[Value.bool false] 4, Cel b1 #[Value.slice A_L L.length c_L] 38] [g28, roR Aor1_2 2 enCell6 g0r1_2, MemR m b V, roR A_L 2 enCell6 L] w65 := hW
           have hall_ : pre_.length = g0r1_2.length := by obtain ⟨ks_, h1_, h2_, h3_⟩ := hS_; rw [h3_, hR_.cells h1_ h2_, ← hr1_2_hF]
           refine blkN ?_
           refine thenN ?_
           refine wpIn_seq ?_
           refine wpIn_region_lit ?_
           refine st_rdF (v := Value.int .i64 n) hA (by kernel_rfl) (by kernel_rfl) (by kernel_rfl) (by kernel_rfl) hW.cls (Rd.load (b := b49) (i := 0) (by kernel_rfl) (fun _ hw => (hw.1).cel 0 rfl) (by kernel_rfl)) ?_; clear hA ac; intro ac hA
           refine st_rdF (v := Value.slice Aor1_2 (g0r1_2).length cor1_2) hA (by kernel_rfl) (by kernel_rfl) (by kernel_rfl) (by kernel_rfl) hW.cls (Rd.load (b := br1_7) (i := 0) (by kernel_rfl) (fun _ hw => (hw.1).cel 1 rfl) (by kernel_rfl)) ?_; clear hA ac; intro ac hA
           refine st_rdF (v := Value.int .i64 (((g0r1_2).length : Nat) : Int)) hA (by kernel_rfl) (by kernel_rfl) (by kernel_rfl) (by kernel_rfl) hW.cls (Rd.pure fun _ => by kernel_rfl) ?_; clear hA ac; intro ac hA
           refine st_rdF (v := Value.int .i64 many) hA (by kernel_rfl) (by kernel_rfl) (by kernel_rfl) (by kernel_rfl) hW.cls (Rd.load (b := b3) (i := 0) (by kernel_rfl) (fun _ hw => (hw.1).cel 2 rfl) (by kernel_rfl)) ?_; clear hA ac; intro ac hA
           refine st_rdF (v := Value.int .i64 (max (1 : Int) (many : Int))) hA (by kernel_rfl) (by kernel_rfl) (by kernel_rfl) (by kernel_rfl) hW.cls (Rd.pureE (v0 := Value.int .i64 (if (many : Int) > (1 : Int) then (many : Int) else (1 : Int))) (fun _ => by kernel_rfl) (congrArg (Value.int .i64) (max_ _ _))) ?_; clear hA ac; intro ac hA
           refine st_rdF (v := Value.int .i64 (min ((((g0r1_2).length : Nat) : Int) : Int) (max (1 : Int) (many : Int) : Int))) hA (by kernel_rfl) (by kernel_rfl) (by kernel_rfl) (by kernel_rfl) hW.cls (Rd.pureE (v0 := Value.int .i64 (if (max (1 : Int) (many : Int) : Int) < ((((g0r1_2).length : Nat) : Int) : Int) then (max (1 : Int) (many : Int) : Int) else ((((g0r1_2).length : Nat) : Int) : Int))) (fun _ => by kernel_rfl) (congrArg (Value.int .i64) (min_ _ _))) ?_; clear hA ac; intro ac hA
           refine st_rdF (v := Value.bool ((n : Int) == (min ((((g0r1_2).length : Nat) : Int) : Int) (max (1 : Int) (many : Int) : Int) : Int))) hA (by kernel_rfl) (by kernel_rfl) (by kernel_rfl) (by kernel_rfl) hW.cls (Rd.pure fun _ => by kernel_rfl) ?_; clear hA ac; intro ac hA
           refine stF hA (by kernel_rfl) (by kernel_rfl) (by kernel_rfl) (by kernel_rfl) (RunsF.of (Runs.store (v := Value.bool ((n : Int) == (min ((((g0r1_2).length : Nat) : Int) : Int) (max (1 : Int) (many : Int) : Int) : Int))) (b := b5) (j := 0) (n := 1) (cs' := #[Value.bool ((n : Int) == (min ((((g0r1_2).length : Nat) : Int) : Int) (max (1 : Int) (many : Int) : Int) : Int))]) (H' := [Cel b49 #[Value.int .i64 n] 3, Cel br1_7 #[Value.slice Aor1_2 (g0r1_2).length cor1_2] 22, Cel b3 #[Value.int .i64 many] 3, DefR D64, rowR 28 1 enU4 (Value.slice Aor1_6 (g0r1_6).length cor1_6) g0r1_6, rowR 28 1 enU4 (Value.slice Aor1_4 (g0r1_4).length cor1_4) g0r1_4, Cel b5 #[Value.bool ((n : Int) == (min ((((g0r1_2).length : Nat) : Int) : Int) (max (1 : Int) (many : Int) : Int) : Int))] 4, Cel b1 #[Value.slice A_L L.length c_L] 38]) (by kernel_rfl) (by kernel_rfl) (by kernel_rfl) (by kernel_rfl) (by kernel_rfl) hW 6 (by rfl) (Nat.le_of_ble_eq_true (by kernel_rfl)) (by kernel_rfl) (by rfl) ?_)); clear hA ac hW; intro w66 hW ac hA
           refine wpListIn_nil ?_
           refine thenN ?_
           refine wpIn_ret ?_
           refine retF (.inl rfl) hA ?_
           refine leaveD (H' := [Cel b49 #[Value.int .i64 n] 3, Cel br1_7 #[Value.slice Aor1_2 (g0r1_2).length cor1_2] 22, Cel b3 #[Value.int .i64 many] 3, rowR 28 1 enU4 (Value.slice Aor1_6 (g0r1_6).length cor1_6) g0r1_6, rowR 28 1 enU4 (Value.slice Aor1_4 (g0r1_4).length cor1_4) g0r1_4, Cel b5 #[Value.bool ((n : Int) == (min ((((g0r1_2).length : Nat) : Int) : Int) (max (1 : Int) (many : Int) : Int) : Int))] 4, Cel b1 #[Value.slice A_L L.length c_L] 38]) hW 3 rfl rfl ?_; clear hW; intro w67 hW
           refine leave1 (v := Value.bool ((n : Int) == (min ((((g0r1_2).length : Nat) : Int) : Int) (max (1 : Int) (many : Int) : Int) : Int))) (by rfl) (GotF.cell (b := b5) (i := 0) hA (by kernel_rfl) (by kernel_rfl) (hW.cel 5 rfl) (by kernel_rfl)) ?_
           clear hA
           exact ⟨retv (by (refine congrArg Value.bool (beq_iff_eq.2 ?_); omega)), hW.fr⟩
         · skip
           clear hA ac hW; intro D68 c_ pre_ Hk_ w69 ac hJ_ hA hW
           rcases hJ_ with ⟨rfl, n, hx, rfl⟩
           · skip
             replace hW : Ws w No [Cel b49 #[Value.int .i64 n] 3, Cel br1_7 #[Value.slice Aor1_2 (g0r1_2).length cor1_2] 22, Cel b3 #[Value.int .i64 many] 3, DefR D68, rowR 28 1 enU4 (Value.slice Aor1_6 (g0r1_6).length cor1_6) g0r1_6, rowR 28 1 enU4 (Value.slice Aor1_4 (g0r1_4).length cor1_4) g0r1_4, Cel b5 #[Value.bool false] 4, Cel b1 #[Value.slice A_L L.length c_L] 38] [g28, roR Aor1_2 2 enCell6 g0r1_2, MemR m b V, roR A_L 2 enCell6 L] w69 := hW
             refine wpIn_exit ?_
             refine blkX ?_
             refine thenN ?_
             refine wpIn_seq ?_
             refine wpIn_region_lit ?_
             refine st_rdF (v := Value.int .i64 n) hA (by kernel_rfl) (by kernel_rfl) (by kernel_rfl) (by kernel_rfl) hW.cls (Rd.load (b := b49) (i := 0) (by kernel_rfl) (fun _ hw => (hw.1).cel 0 rfl) (by kernel_rfl)) ?_; clear hA ac; intro ac hA
             refine st_rdF (v := Value.slice Aor1_2 (g0r1_2).length cor1_2) hA (by kernel_rfl) (by kernel_rfl) (by kernel_rfl) (by kernel_rfl) hW.cls (Rd.load (b := br1_7) (i := 0) (by kernel_rfl) (fun _ hw => (hw.1).cel 1 rfl) (by kernel_rfl)) ?_; clear hA ac; intro ac hA
             refine st_rdF (v := Value.int .i64 (((g0r1_2).length : Nat) : Int)) hA (by kernel_rfl) (by kernel_rfl) (by kernel_rfl) (by kernel_rfl) hW.cls (Rd.pure fun _ => by kernel_rfl) ?_; clear hA ac; intro ac hA
             refine st_rdF (v := Value.int .i64 many) hA (by kernel_rfl) (by kernel_rfl) (by kernel_rfl) (by kernel_rfl) hW.cls (Rd.load (b := b3) (i := 0) (by kernel_rfl) (fun _ hw => (hw.1).cel 2 rfl) (by kernel_rfl)) ?_; clear hA ac; intro ac hA
             refine st_rdF (v := Value.int .i64 (max (1 : Int) (many : Int))) hA (by kernel_rfl) (by kernel_rfl) (by kernel_rfl) (by kernel_rfl) hW.cls (Rd.pureE (v0 := Value.int .i64 (if (many : Int) > (1 : Int) then (many : Int) else (1 : Int))) (fun _ => by kernel_rfl) (congrArg (Value.int .i64) (max_ _ _))) ?_; clear hA ac; intro ac hA
             refine st_rdF (v := Value.int .i64 (min ((((g0r1_2).length : Nat) : Int) : Int) (max (1 : Int) (many : Int) : Int))) hA (by kernel_rfl) (by kernel_rfl) (by kernel_rfl) (by kernel_rfl) hW.cls (Rd.pureE (v0 := Value.int .i64 (if (max (1 : Int) (many : Int) : Int) < ((((g0r1_2).length : Nat) : Int) : Int) then (max (1 : Int) (many : Int) : Int) else ((((g0r1_2).length : Nat) : Int) : Int))) (fun _ => by kernel_rfl) (congrArg (Value.int .i64) (min_ _ _))) ?_; clear hA ac; intro ac hA
             refine st_rdF (v := Value.bool ((n : Int) == (min ((((g0r1_2).length : Nat) : Int) : Int) (max (1 : Int) (many : Int) : Int) : Int))) hA (by kernel_rfl) (by kernel_rfl) (by kernel_rfl) (by kernel_rfl) hW.cls (Rd.pure fun _ => by kernel_rfl) ?_; clear hA ac; intro ac hA
             refine stF hA (by kernel_rfl) (by kernel_rfl) (by kernel_rfl) (by kernel_rfl) (RunsF.of (Runs.store (v := Value.bool ((n : Int) == (min ((((g0r1_2).length : Nat) : Int) : Int) (max (1 : Int) (many : Int) : Int) : Int))) (b := b5) (j := 0) (n := 1) (cs' := #[Value.bool ((n : Int) == (min ((((g0r1_2).length : Nat) : Int) : Int) (max (1 : Int) (many : Int) : Int) : Int))]) (H' := [Cel b49 #[Value.int .i64 n] 3, Cel br1_7 #[Value.slice Aor1_2 (g0r1_2).length cor1_2] 22, Cel b3 #[Value.int .i64 many] 3, DefR D68, rowR 28 1 enU4 (Value.slice Aor1_6 (g0r1_6).length cor1_6) g0r1_6, rowR 28 1 enU4 (Value.slice Aor1_4 (g0r1_4).length cor1_4) g0r1_4, Cel b5 #[Value.bool ((n : Int) == (min ((((g0r1_2).length : Nat) : Int) : Int) (max (1 : Int) (many : Int) : Int) : Int))] 4, Cel b1 #[Value.slice A_L L.length c_L] 38]) (by kernel_rfl) (by kernel_rfl) (by kernel_rfl) (by kernel_rfl) (by kernel_rfl) hW 6 (by rfl) (Nat.le_of_ble_eq_true (by kernel_rfl)) (by kernel_rfl) (by rfl) ?_)); clear hA ac hW; intro w70 hW ac hA
             refine wpListIn_nil ?_
             refine thenN ?_
             refine wpIn_ret ?_
             refine retF (.inl rfl) hA ?_
             refine leaveD (H' := [Cel b49 #[Value.int .i64 n] 3, Cel br1_7 #[Value.slice Aor1_2 (g0r1_2).length cor1_2] 22, Cel b3 #[Value.int .i64 many] 3, rowR 28 1 enU4 (Value.slice Aor1_6 (g0r1_6).length cor1_6) g0r1_6, rowR 28 1 enU4 (Value.slice Aor1_4 (g0r1_4).length cor1_4) g0r1_4, Cel b5 #[Value.bool ((n : Int) == (min ((((g0r1_2).length : Nat) : Int) : Int) (max (1 : Int) (many : Int) : Int) : Int))] 4, Cel b1 #[Value.slice A_L L.length c_L] 38]) hW 3 rfl rfl ?_; clear hW; intro w71 hW
             refine leave1 (v := Value.bool ((n : Int) == (min ((((g0r1_2).length : Nat) : Int) : Int) (max (1 : Int) (many : Int) : Int) : Int))) (by rfl) (GotF.cell (b := b5) (i := 0) hA (by kernel_rfl) (by kernel_rfl) (hW.cel 5 rfl) (by kernel_rfl)) ?_
             clear hA
             exact ⟨retv (by (refine congrArg Value.bool (beq_iff_eq.2 ?_); omega)), hW.fr⟩))

end Go.Proofs.Ytcokpdlmahlpnaa.L
