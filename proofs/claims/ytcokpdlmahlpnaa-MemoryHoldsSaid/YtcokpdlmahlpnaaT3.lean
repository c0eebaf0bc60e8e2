/- Contracts, walked by program over the engine's laws. -/
import Derived.Test.YtcokpdlmahlpnaaProg
import Derived.Test.YtcokpdlmahlpnaaT2
namespace Go.Proofs.Ytcokpdlmahlpnaa.L
open Go.RowKit

/-- Words are stored, one by one (the last first). -/
def StoreQ (V : VT6) : List Cell6 → VT6 → Prop
  | [], V' => V' = V
  | c :: r, V' => ∃ V1, StoreQ V r V1 ∧ PutR V1 c.addr c.word V'
def StoreR (V : VT6) (l : List Cell6) (V' : VT6) : Prop := StoreQ V l.reverse V'
theorem StoreR.snoc {V V1 V2 : VT6} {l : List Cell6} {c : Cell6} (h : StoreR V l V1) (k : PutR V1 c.addr c.word V2) : StoreR V (l ++ [c]) V2 := by
  unfold StoreR; rw [List.reverse_append]; exact ⟨V1, h, k⟩
set_option maxRecDepth 100000 in
theorem e_mnone (p : Nat) (b : Nat) (w : World) (ho_p : w.heap[p]? = some (.cells #[Value.map (some b)] 54 (0, 0))) : Calls Try.prog 26 #[Value.pointer (some ⟨p, 0, none⟩)] w (fun e w' => e = .returned (Value.bool false) ∧ w = w') := by
 have _hu := ho_p; clear _hu
 refine enter_E 12 Try.func26 rfl rfl (by kernel_rfl) (L := [(0, Value.pointer (some ⟨p, 0, none⟩))]) (by kernel_rfl) ?_
 intro ac hA
 have hW := Ws.start w No
 have hW := hW.celG ho_p
 refine wp_seq ?_
 refine wp_region_lit ?_
 refine st_rd (v := Value.bool false) hA (by kernel_rfl) (by kernel_rfl) (by kernel_rfl) hW.cls (Rd.pure fun _ => by kernel_rfl) ?_; clear hA ac; intro ac hA
 refine wpList_nil ?_
 refine thenN ?_
 refine wp_seq ?_
 refine wp_region_lit ?_
 refine st_rd (v := Value.pointer (some ⟨p, 0, none⟩)) hA (by kernel_rfl) (by kernel_rfl) (by kernel_rfl) hW.cls (Rd.pure fun _ => by kernel_rfl) ?_; clear hA ac; intro ac hA
 refine st_rd (v := Value.bool false) hA (by kernel_rfl) (by kernel_rfl) (by kernel_rfl) hW.cls (Rd.pure fun _ => by kernel_rfl) ?_; clear hA ac; intro ac hA
 refine st_rd (v := Value.bool false) hA (by kernel_rfl) (by kernel_rfl) (by kernel_rfl) hW.cls (Rd.pure fun _ => by kernel_rfl) ?_; clear hA ac; intro ac hA
 refine st_rd (v := Value.pointer (some ⟨p, 0, none⟩)) hA (by kernel_rfl) (by kernel_rfl) (by kernel_rfl) hW.cls (Rd.pure fun _ => by kernel_rfl) ?_; clear hA ac; intro ac hA
 refine st_rd (v := Value.pointer (some ⟨p, 0, none⟩)) hA (by kernel_rfl) (by kernel_rfl) (by kernel_rfl) hW.cls (Rd.pure fun _ => by kernel_rfl) ?_; clear hA ac; intro ac hA
 refine st_rd (v := Value.pointer (some ⟨p, 0, none⟩)) hA (by kernel_rfl) (by kernel_rfl) (by kernel_rfl) hW.cls (Rd.pure fun _ => by kernel_rfl) ?_; clear hA ac; intro ac hA
 refine st_rd (v := Value.map (some b)) hA (by kernel_rfl) (by kernel_rfl) (by kernel_rfl) hW.cls (Rd.load (b := p) (i := 0) (by kernel_rfl) (fun _ hw => show _ = _ from (hw.1).getG 0 rfl) (by kernel_rfl)) ?_; clear hA ac; intro ac hA
 refine st_rd (v := Value.bool false) hA (by kernel_rfl) (by kernel_rfl) (by kernel_rfl) hW.cls (Rd.pure fun _ => by kernel_rfl) ?_; clear hA ac; intro ac hA
 refine st_rd (v := Value.bool false) hA (by kernel_rfl) (by kernel_rfl) (by kernel_rfl) hW.cls (Rd.pure fun _ => by kernel_rfl) ?_; clear hA ac; intro ac hA
 refine st_rd (v := Value.bool false) hA (by kernel_rfl) (by kernel_rfl) (by kernel_rfl) hW.cls (Rd.pure fun _ => by kernel_rfl) ?_; clear hA ac; intro ac hA
 refine wpList_nil ?_
 refine thenN ?_
 refine wp_ret ?_
 refine ret1 (v := Value.bool false) (by rfl) hA (Got.tmp hA (by kernel_rfl) (by kernel_rfl)) ?_
 clear hA
 exact ⟨retv (by rfl), rfl⟩

set_option maxRecDepth 100000 in
theorem e_mstore (m : Nat) (b : Nat) (V : VT6) (A_l : Option Addr) (c_l : Nat) (l : List Cell6) (w : World) (ho_p : (MemR m b V).p w) (hl_p : ∀ x_ ∈ (MemR m b V).fp, x_ < w.heap.size) (hr_l : RowAt w A_l 2 enCell6 l) (hc_l : l.length ≤ c_l) (hd_l : ∀ x_ ∈ (MemR m b V).fp, x_ ∉ (roR A_l 2 enCell6 l).fp) (hl : l.length ≤ 1000) (hwf : ∀ x ∈ l, (0 ≤ x.addr ∧ x.addr ≤ 4294967295) ∧ (0 ≤ x.word ∧ x.word ≤ 4294967295)) : Calls Try.prog 10 #[Value.pointer (some ⟨m, 0, none⟩), Value.slice A_l l.length c_l] w (fun e w' => ∃ V' : VT6, e = .returned (Value.int .i64 0) ∧ (StoreR V l V') ∧ Upd (MemR m b V) (MemR m b V') w w') := by
 have _hu := hc_l; have _hv := hr_l; clear _hu _hv
 have _hu := ho_p; have _hv := hl_p; clear _hu _hv
 have _hu := hl; clear _hu
 have _hu := hwf; clear _hu
 refine enter_E 25 Try.func10 rfl rfl (by kernel_rfl) (L := [(0, Value.pointer (some ⟨m, 0, none⟩)), (1, Value.slice A_l l.length c_l)]) (by kernel_rfl) ?_
 intro ac hA
 have hW : Ws w (· ∈ (MemR m b V).fp) [Cel m #[Value.map (some b)] 54, mapR b (fun a : Int => Value.int .u32 a) (fun x_ : Nat => Value.pointer (some ⟨x_, 0, none⟩)) (outs V), SubR (fun (c_ : Nat → Int) (b_ : Nat) => PgR .u32 4096 64 c_ b_) V] [] w := Ws.unpack (K := []) (objW ho_p hl_p)
 clear ho_p hl_p
 have hW := hW.addG (roR A_l 2 enCell6 l) hr_l (roR_lt hr_l) (by intro r_ hr_; exact fun b_ hb_ => hd_l b_ (mem_allR.2 ⟨r_, hr_, hb_⟩))
 refine wp_seq ?_
 refine wp_region_lit ?_
 refine st_rd (v := Value.int .i64 0) hA (by kernel_rfl) (by kernel_rfl) (by kernel_rfl) hW.cls (Rd.pure fun _ => by kernel_rfl) ?_; clear hA ac; intro ac hA
 refine wpList_nil ?_
 refine thenN ?_
 refine wp_fwd (l := 0) rfl ?_
 refine wp_seq ?_
 refine wp_seq ?_
 refine wp_region_lit ?_
 refine st_rd (v := Value.pointer (some ⟨m, 0, none⟩)) hA (by kernel_rfl) (by kernel_rfl) (by kernel_rfl) hW.cls (Rd.pure fun _ => by kernel_rfl) ?_; clear hA ac; intro ac hA
 refine st hA (by kernel_rfl) (by kernel_rfl) (by kernel_rfl) (Runs.callS (v := Value.bool false) (fun _ => by kernel_rfl) (e_mnone m b w ((hW).cel 0 rfl)) ?_); clear hA ac; intro  ac hA
 refine wpList_nil ?_
 refine thenN ?_
 refine wp_cond_false (hA.eval (by kernel_rfl)) ?_
 refine wp_skip ?_
 refine thenN ?_
 refine wp_seq ?_
 refine wp_seq ?_
 refine wp_region_lit ?_
 refine st_rd (v := Value.slice A_l l.length c_l) hA (by kernel_rfl) (by kernel_rfl) (by kernel_rfl) hW.cls (Rd.pure fun _ => by kernel_rfl) ?_; clear hA ac; intro ac hA
 refine st_rd (v := Value.int .i64 ((l.length : Nat) : Int)) hA (by kernel_rfl) (by kernel_rfl) (by kernel_rfl) hW.cls (Rd.pure fun _ => by kernel_rfl) ?_; clear hA ac; intro ac hA
 refine st_rd (v := Value.int .i64 0) hA (by kernel_rfl) (by kernel_rfl) (by kernel_rfl) hW.cls (Rd.pure fun _ => by kernel_rfl) ?_; clear hA ac; intro ac hA
 refine wpList_nil ?_
 refine thenN ?_
 refine wp_block ?_
 have hW : Ws w (· ∈ (MemR m b V).fp) [PgsR b V, Cel m #[Value.map (some b)] 54] [roR A_l 2 enCell6 l] w := Ws.pack (L := [mapR b (fun a : Int => Value.int .u32 a) (fun x_ : Nat => Value.pointer (some ⟨x_, 0, none⟩)) (outs V), SubR (fun (c_ : Nat → Int) (b_ : Nat) => PgR .u32 4096 64 c_ b_) V]) (hW.pick [1, 2, 0] (by decide) rfl)
 refine wp_loop_m (fun m_ ac_ wl_ => ∃ k : Nat, ∃ W : VT6, m_ = l.length - k ∧ (k ≤ l.length) ∧ (StoreR V (l.take k) W) ∧ Fm 25 [] [(0, Value.pointer (some ⟨m, 0, none⟩)), (9, Value.slice A_l l.length c_l), (10, Value.int .i64 ((l.length : Nat) : Int)), (11, Value.int .i64 ((k : Nat) : Int))] ac_ ∧ Ws w (· ∈ (MemR m b V).fp) [PgsR b W, Cel m #[Value.map (some b)] 54] [roR A_l 2 enCell6 l] wl_) _ ⟨0, V, rfl, by omega, by rfl, hA.sub ⟨⟨by kernel_rfl, by kernel_rfl⟩, ⟨by kernel_rfl, by kernel_rfl⟩, ⟨by kernel_rfl, by kernel_rfl⟩, ⟨by kernel_rfl, by kernel_rfl⟩, trivial⟩, (hW.pick [0, 1] (by decide) rfl).pickG [0] rfl⟩ ?_
 clear hA ac hW; rintro m_ ac w1 ⟨k, W, rfl, hk, hS, hA, hW⟩
 refine wp_seq ?_
 refine wp_region_lit ?_
 refine st_rd (v := Value.bool (decide ((((k : Nat) : Int) : Int) < (((l.length : Nat) : Int) : Int)))) hA (by kernel_rfl) (by kernel_rfl) (by kernel_rfl) hW.cls (Rd.pure fun _ => by kernel_rfl) ?_; clear hA ac; intro ac hA
 refine wpList_nil ?_
 refine thenN ?_
 refine wp_seq ?_
 refine wp_cond_split (t := decide ((((k : Nat) : Int) : Int) < (((l.length : Nat) : Int) : Int))) (hA.eval (by kernel_rfl)) (fun h2 => ?_) (fun h2 => ?_)
 · skip
   have h2 := of_decide_eq_true h2
   first
   | (exfalso; clear hA hW; omega)
   | (
     refine wp_skip ?_
     refine thenN ?_
     refine wp_seq ?_
     refine wp_block ?_
     refine wp_seq ?_
     refine wp_region_lit ?_
     obtain ⟨y3, hy3⟩ : ∃ y, l[k]? = some y := ⟨_, List.getElem?_eq_getElem (by first | omega | (simp; done) | (simp; omega))⟩
     obtain ⟨b4, o5, rfl, hbb4⟩ := row_some ((hW).getG 0 rfl) hy3
     refine st_rd (v := Value.pointer (some ⟨b4, o5 + k * 2, none⟩)) hA (by kernel_rfl) (by kernel_rfl) (by kernel_rfl) hW.cls (Rd.indexAddr (e := 30) (sz := 2) (b := b4) (off := o5) (n := l.length) (c := c_l) (k := k) (by kernel_rfl) (by kernel_rfl) (by first | omega | (simp; done) | (simp; omega)) (fun _ => by kernel_rfl) (fun _ => by kernel_rfl)) ?_; clear hA ac; intro ac hA
     refine st_rd (v := Value.agg #[Value.int .u32 y3.addr, Value.int .u32 y3.word]) hA (by kernel_rfl) (by kernel_rfl) (by kernel_rfl) hW.cls (Rd.loadRow (b := b4) (i := o5 + k * 2) (xs := [Value.int .u32 y3.addr, Value.int .u32 y3.word]) (by kernel_rfl) (fun _ hw => row_ld ((hw.1).getG 0 rfl) hy3 (Fr.refl No _) (fun h => h) 0 2 (by kernel_rfl)) (by kernel_rfl)) ?_; clear hA ac; intro ac hA
     refine st hA (by kernel_rfl) (by kernel_rfl) (by kernel_rfl) (Runs.cells (fun b => Value.pointer (some ⟨b, 0, none⟩)) #[Value.int .u32 0, Value.int .u32 0] 30 (fun _ => by kernel_rfl) hW ?_); clear hA ac hW; intro b6 w7 hW hb6 hfw7 ac hA
     refine st hA (by kernel_rfl) (by kernel_rfl) (by kernel_rfl) (Runs.store (v := Value.agg #[Value.int .u32 y3.addr, Value.int .u32 y3.word]) (b := b6) (j := 0) (n := 2) (cs' := #[Value.int .u32 y3.addr, Value.int .u32 y3.word]) (H' := [Cel b6 #[Value.int .u32 y3.addr, Value.int .u32 y3.word] 30, PgsR b W, Cel m #[Value.map (some b)] 54]) (by kernel_rfl) (by kernel_rfl) (by kernel_rfl) (by kernel_rfl) (by kernel_rfl) hW 0 (by rfl) (Nat.le_of_ble_eq_true (by kernel_rfl)) (by kernel_rfl) (by rfl) ?_); clear hA ac hW; intro w8 hW ac hA
     refine wpList_nil ?_
     refine thenN ?_
     refine wp_cut (fun ac_ wl_ => ∃ u0r5_8 : VT6, (PutR W (y3.addr) (y3.word) u0r5_8) ∧ Fm 25 [] [(0, Value.pointer (some ⟨m, 0, none⟩)), (6, Value.pointer (some ⟨b6, 0, none⟩)), (9, Value.slice (some ⟨b4, o5, none⟩) l.length c_l), (10, Value.int .i64 ((l.length : Nat) : Int)), (11, Value.int .i64 ((k : Nat) : Int)), (12, Value.bool (decide ((((k : Nat) : Int) : Int) < (((l.length : Nat) : Int) : Int)))), (13, Value.pointer (some ⟨b4, o5 + k * 2, none⟩)), (14, Value.agg #[Value.int .u32 y3.addr, Value.int .u32 y3.word])] ac_ ∧ Ws w (· ∈ (MemR m b V).fp) [Cel b6 #[Value.int .u32 y3.addr, Value.int .u32 y3.word] 30, PgsR b u0r5_8, Cel m #[Value.map (some b)] 54] [roR (some ⟨b4, o5, none⟩) 2 enCell6 l] wl_) ?_ ?_
     · refine sr_region (m := 9) (C := Ws w (· ∈ (MemR m b V).fp) [Cel b6 #[Value.int .u32 y3.addr, Value.int .u32 y3.word] 30, Cel m #[Value.map (some b)] 54] [roR (some ⟨b4, o5, none⟩) 2 enCell6 l]) (fun i => [3, 5, 7].contains i) (fun i => [3, 5, 7].contains i) (fun i => [0, 1, 2, 4, 6].contains i) (by kernel_rfl) (by kernel_rfl) (by kernel_rfl) (by kernel_rfl) hW ?_; clear hW; intro w9 hW hfw9 hR; have hC : Ws w (· ∈ (MemR m b V).fp) [Cel b6 #[Value.int .u32 y3.addr, Value.int .u32 y3.word] 30, Cel m #[Value.map (some b)] 54] [roR (some ⟨b4, o5, none⟩) 2 enCell6 l] w9 := hW.pick [0, 2] (by decide) rfl
       refine sr_pure (i := 0) (v := Value.pointer (some ⟨m, 0, none⟩)) hR (by kernel_rfl) rfl (by kernel_rfl) (by kernel_rfl) (fun _ _ _ h => h.elim) hA (by kernel_rfl) (by kernel_rfl) (by kernel_rfl) (Rd.pure fun _ => by kernel_rfl) ?_; clear hA ac; intro ac hA
       refine sr_pure (i := 1) (v := Value.pointer (some ⟨m, 0, none⟩)) hR (by kernel_rfl) rfl (by kernel_rfl) (by kernel_rfl) (fun _ _ _ h => h.elim) hA (by kernel_rfl) (by kernel_rfl) (by kernel_rfl) (Rd.pure fun _ => by kernel_rfl) ?_; clear hA ac; intro ac hA
       refine sr_pure (i := 2) (v := Value.pointer (some ⟨m, 0, none⟩)) hR (by kernel_rfl) rfl (by kernel_rfl) (by kernel_rfl) (fun _ _ _ h => h.elim) hA (by kernel_rfl) (by kernel_rfl) (by kernel_rfl) (Rd.pure fun _ => by kernel_rfl) ?_; clear hA ac; intro ac hA
       refine sr_take (i := 3) (v := Value.map (some b)) hR (by kernel_rfl) rfl (by kernel_rfl) (by kernel_rfl) (by kernel_rfl) (fun _ _ _ h => h.elim) hA (by kernel_rfl) (by kernel_rfl) (by kernel_rfl) hC (Rd.load (b := m) (i := 0) (by kernel_rfl) (fun _ hw => (hw).cel 1 rfl) (by kernel_rfl)) ?_; clear hA ac; intro ac hA
       refine sr_pure (i := 4) (v := Value.pointer (some ⟨b6, 0, none⟩)) hR (by kernel_rfl) rfl (by kernel_rfl) (by kernel_rfl) (fun _ _ _ h => h.elim) hA (by kernel_rfl) (by kernel_rfl) (by kernel_rfl) (Rd.pure fun _ => by kernel_rfl) ?_; clear hA ac; intro ac hA
       refine sr_take (i := 5) (v := Value.int .u32 y3.addr) hR (by kernel_rfl) rfl (by kernel_rfl) (by kernel_rfl) (by kernel_rfl) (fun _ _ _ h => h.elim) hA (by kernel_rfl) (by kernel_rfl) (by kernel_rfl) hC (Rd.load (b := b6) (i := 0) (by kernel_rfl) (fun _ hw => (hw).cel 0 rfl) (by kernel_rfl)) ?_; clear hA ac; intro ac hA
       refine sr_pure (i := 6) (v := Value.pointer (some ⟨b6, 1, none⟩)) hR (by kernel_rfl) rfl (by kernel_rfl) (by kernel_rfl) (fun _ _ _ h => h.elim) hA (by kernel_rfl) (by kernel_rfl) (by kernel_rfl) (Rd.pure fun _ => by kernel_rfl) ?_; clear hA ac; intro ac hA
       refine sr_take (i := 7) (v := Value.int .u32 y3.word) hR (by kernel_rfl) rfl (by kernel_rfl) (by kernel_rfl) (by kernel_rfl) (fun _ _ _ h => h.elim) hA (by kernel_rfl) (by kernel_rfl) (by kernel_rfl) hC (Rd.load (b := b6) (i := 1) (by kernel_rfl) (fun _ hw => (hw).cel 0 rfl) (by kernel_rfl)) ?_; clear hA ac; intro ac hA
       refine sr_one (i := 8) (by kernel_rfl) (sr_do rfl hA (by kernel_rfl) (by kernel_rfl) (by kernel_rfl) (Runs.call (fun _ => by kernel_rfl) (e_put b W (y3.addr) (y3.word) w9 ((hW).get 1 rfl) ((hW).lt _ (List.mem_of_getElem? (i := 1) rfl)) (by first | omega | exact (hwf _ (List.mem_of_getElem? ‹_›)).1 | exact (hwf _ (List.mem_of_getElem? ‹_›)).2) (by first | omega | exact (hwf _ (List.mem_of_getElem? ‹_›)).1 | exact (hwf _ (List.mem_of_getElem? ‹_›)).2)) ?_))
       rintro _ w10 ⟨u0r5_8, rfl, hr5_8_hP, hu_⟩; refine ⟨_, rfl, ?_⟩; replace hW := hW.upd (H' := [Cel b6 #[Value.int .u32 y3.addr, Value.int .u32 y3.word] 30, PgsR b u0r5_8, Cel m #[Value.map (some b)] 54]) 1 rfl hu_ rfl; clear hA ac; intro ac hA
       refine ⟨⟨fun h => absurd h (by decide), fun h => absurd h (by decide)⟩, ?_⟩
       refine sr_done (by kernel_rfl) ?_ _
       exact ⟨u0r5_8, hr5_8_hP, hA.sub ⟨⟨by kernel_rfl, by kernel_rfl⟩, ⟨by kernel_rfl, by kernel_rfl⟩, ⟨by kernel_rfl, by kernel_rfl⟩, ⟨by kernel_rfl, by kernel_rfl⟩, ⟨by kernel_rfl, by kernel_rfl⟩, ⟨by kernel_rfl, by kernel_rfl⟩, ⟨by kernel_rfl, by kernel_rfl⟩, ⟨by kernel_rfl, by kernel_rfl⟩, trivial⟩, (hW.pick [0, 1, 2] (by decide) rfl).pickG [0] rfl⟩
     clear hA ac hW; rintro ac w11 ⟨u0r5_8, hr5_8_hP, hA, hW⟩
     refine blkN ?_
     refine thenN ?_
     refine wp_region_lit ?_
     refine st_rd (v := Value.int .i64 ((k + 1 : Nat) : Int)) hA (by kernel_rfl) (by kernel_rfl) (by kernel_rfl) hW.cls (Rd.pureE (v0 := Value.int .i64 (IntKind.i64.wrap ((((k : Nat) : Int) : Int) + 1))) (fun _ => by kernel_rfl) (congrArg (Value.int .i64) ((w_i64 (x := (((k : Nat) : Int) : Int) + 1) (by omega) (by omega)).trans (by omega)))) ?_; clear hA ac; intro ac hA
     refine st_rd (v := Value.int .i64 ((k + 1 : Nat) : Int)) hA (by kernel_rfl) (by kernel_rfl) (by kernel_rfl) hW.cls (Rd.pure fun _ => by kernel_rfl) ?_; clear hA ac; intro ac hA
     refine wpList_nil ?_
     refine thenN ?_
     exact ⟨l.length - (k + 1), by omega, k + 1, u0r5_8, rfl, by omega, by rw [tk_snoc hy3]; exact hS.snoc hr5_8_hP, hA.sub ⟨⟨by kernel_rfl, by kernel_rfl⟩, ⟨by kernel_rfl, by kernel_rfl⟩, ⟨by kernel_rfl, by kernel_rfl⟩, ⟨by kernel_rfl, by kernel_rfl⟩, trivial⟩, (hW.pick [1, 2] (by decide) rfl).pickG [0] rfl⟩)
 · skip
   have h2 := of_decide_eq_false h2
   first
   | (exfalso; clear hA hW; omega)
   | (
     refine wp_exit ?_
     refine thenX ?_
     refine thenX ?_
     refine blkX ?_
     refine thenN ?_
     refine wp_seq ?_
     refine wp_seq ?_
     refine wp_region_lit ?_
     refine st_rd (v := Value.int .i64 0) hA (by kernel_rfl) (by kernel_rfl) (by kernel_rfl) hW.cls (Rd.pure fun _ => by kernel_rfl) ?_; clear hA ac; intro ac hA
     refine wpList_nil ?_
     refine thenN ?_
     refine wp_ret ?_
     refine thenR ?_
     refine fwdR ?_
     refine ret1 (v := Value.int .i64 0) (by rfl) hA (Got.tmp hA (by kernel_rfl) (by kernel_rfl)) ?_
     clear hA
     have hW : Ws w (· ∈ (MemR m b V).fp) [mapR b (fun a : Int => Value.int .u32 a) (fun x_ : Nat => Value.pointer (some ⟨x_, 0, none⟩)) (outs W), SubR (fun (c_ : Nat → Int) (b_ : Nat) => PgR .u32 4096 64 c_ b_) W, Cel m #[Value.map (some b)] 54] [roR A_l 2 enCell6 l] w1 := Ws.unpack (hW.pick [0, 1] (by decide) rfl)
     rw [List.take_of_length_le (by omega)] at hS
     exact ⟨W, rfl, by exact hS, (Ws.pack (K := []) (show Ws w (· ∈ (MemR m b V).fp) ([Cel m #[Value.map (some b)] 54, mapR b (fun a : Int => Value.int .u32 a) (fun x_ : Nat => Value.pointer (some ⟨x_, 0, none⟩)) (outs W), SubR (fun (c_ : Nat → Int) (b_ : Nat) => PgR .u32 4096 64 c_ b_) W] ++ []) [roR A_l 2 enCell6 l] _ from hW.pick [2, 0, 1] (by decide) rfl)).updDone 0 rfl⟩)

set_option maxRecDepth 100000 in
theorem e_mload (m : Nat) (b : Nat) (V : VT6) (a : Int) (w : World) (ho_p : (MemR m b V).p w) (hl_p : ∀ x_ ∈ (MemR m b V).fp, x_ < w.heap.size) (ha : 0 ≤ a ∧ a ≤ 4294967295) : Calls Try.prog 11 #[Value.pointer (some ⟨m, 0, none⟩), Value.int .u32 a] w (fun e w' => e = .returned (Value.int .u32 (((look (vals V) (pgN a)).map fun f => f (pgI a).toNat).getD 0)) ∧ Fr No w w') := by
 have _hu := ho_p; have _hv := hl_p; clear _hu _hv
 have _hu := ha; clear _hu
 refine enter_E 13 Try.func11 rfl rfl (by kernel_rfl) (L := [(0, Value.pointer (some ⟨m, 0, none⟩)), (1, Value.int .u32 a)]) (by kernel_rfl) ?_
 intro ac hA
 have hW := Ws.start w No
 have hW := hW.objG (L := [Cel m #[Value.map (some b)] 54, mapR b (fun a : Int => Value.int .u32 a) (fun x_ : Nat => Value.pointer (some ⟨x_, 0, none⟩)) (outs V), SubR (fun (c_ : Nat → Int) (b_ : Nat) => PgR .u32 4096 64 c_ b_) V]) ho_p hl_p
 clear ho_p hl_p
 refine wp_seq ?_
 refine wp_region_lit ?_
 refine st_rd (v := Value.int .u32 0) hA (by kernel_rfl) (by kernel_rfl) (by kernel_rfl) hW.cls (Rd.pure fun _ => by kernel_rfl) ?_; clear hA ac; intro ac hA
 refine wpList_nil ?_
 refine thenN ?_
 refine wp_seq ?_
 refine wp_seq ?_
 refine wp_region_lit ?_
 refine st_rd (v := Value.pointer (some ⟨m, 0, none⟩)) hA (by kernel_rfl) (by kernel_rfl) (by kernel_rfl) hW.cls (Rd.pure fun _ => by kernel_rfl) ?_; clear hA ac; intro ac hA
 refine st hA (by kernel_rfl) (by kernel_rfl) (by kernel_rfl) (Runs.callS (v := Value.bool false) (fun _ => by kernel_rfl) (e_mnone m b w (show _ = _ from (hW).getG 0 rfl)) ?_); clear hA ac; intro  ac hA
 refine wpList_nil ?_
 refine thenN ?_
 refine wp_cond_false (hA.eval (by kernel_rfl)) ?_
 refine wp_skip ?_
 refine thenN ?_
 refine wp_seq ?_
 refine wp_region_lit ?_
 refine st_rd (v := Value.pointer (some ⟨m, 0, none⟩)) hA (by kernel_rfl) (by kernel_rfl) (by kernel_rfl) hW.cls (Rd.pure fun _ => by kernel_rfl) ?_; clear hA ac; intro ac hA
 refine st_rd (v := Value.pointer (some ⟨m, 0, none⟩)) hA (by kernel_rfl) (by kernel_rfl) (by kernel_rfl) hW.cls (Rd.pure fun _ => by kernel_rfl) ?_; clear hA ac; intro ac hA
 refine st_rd (v := Value.pointer (some ⟨m, 0, none⟩)) hA (by kernel_rfl) (by kernel_rfl) (by kernel_rfl) hW.cls (Rd.pure fun _ => by kernel_rfl) ?_; clear hA ac; intro ac hA
 refine st_rd (v := Value.map (some b)) hA (by kernel_rfl) (by kernel_rfl) (by kernel_rfl) hW.cls (Rd.load (b := m) (i := 0) (by kernel_rfl) (fun _ hw => show _ = _ from (hw.1).getG 0 rfl) (by kernel_rfl)) ?_; clear hA ac; intro ac hA
 refine st_rd (v := Value.int .u32 a) hA (by kernel_rfl) (by kernel_rfl) (by kernel_rfl) hW.cls (Rd.pure fun _ => by kernel_rfl) ?_; clear hA ac; intro ac hA
 refine st hA (by kernel_rfl) (by kernel_rfl) (by kernel_rfl) (Runs.callN (v := Value.int .u32 (((look (vals V) (pgN (a))).map fun f => f (pgI (a)).toNat).getD 0)) (fun _ => by kernel_rfl) hW (e_word b V (a) w ((hW).getG 1 rfl) ((hW).getG 2 rfl) ((hW).glt _ (List.mem_of_getElem? (i := 2) rfl)) (by first | omega | (simp; done))) ?_); clear hA ac hW; intro w1 hW hfw1 ac hA
 refine st_rd (v := Value.int .u32 (((look (vals V) (pgN (a))).map fun f => f (pgI (a)).toNat).getD 0)) hA (by kernel_rfl) (by kernel_rfl) (by kernel_rfl) hW.cls (Rd.pure fun _ => by kernel_rfl) ?_; clear hA ac; intro ac hA
 refine wpList_nil ?_
 refine thenN ?_
 refine wp_ret ?_
 refine ret1 (v := Value.int .u32 (((look (vals V) (pgN (a))).map fun f => f (pgI (a)).toNat).getD 0)) (by rfl) hA (Got.tmp hA (by kernel_rfl) (by kernel_rfl)) ?_
 clear hA
 exact ⟨retv (by rfl), hW.fr⟩

end Go.Proofs.Ytcokpdlmahlpnaa.L
