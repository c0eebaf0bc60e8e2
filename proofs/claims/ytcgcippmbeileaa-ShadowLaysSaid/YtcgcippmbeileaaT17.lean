/- Contracts, walked by program over the engine's laws. -/
import Derived.Test.YtcgcippmbeileaaProg
import Derived.Test.YtcgcippmbeileaaT16
import Derived.Test.YtcgcippmbeileaaT14P
import Derived.Test.YtcgcippmbeileaaRel22B
namespace Go.Proofs.Ytcgcippmbeileaa.L
open Go.RowKit

set_option maxRecDepth 100000 in
theorem e_lay22 (m : Nat) (b : Nat) (V : VT22) (A_L : Option Addr) (c_L : Nat) (L : List Rc22) (a : Act22) (w : World) (ho_p : (ShR m b V).p w) (hl_p : ∀ x_ ∈ (ShR m b V).fp, x_ < w.heap.size) (hr_L : RowAt w A_L 8 enCell22 L) (hc_L : L.length ≤ c_L) (hd_L : ∀ x_ ∈ (ShR m b V).fp, x_ ∉ (roR A_L 8 enCell22 L).fp) (hR : ∃ n, n < 49 ∧ Rel22 n L V) (hx : (0 ≤ a.addr ∧ a.addr ≤ 4294967295) ∧ ((0 ≤ a.x.wr ∧ a.x.wr ≤ 18446744073709551615) ∧ (0 ≤ a.x.rd ∧ a.x.rd ≤ 18446744073709551615))) : Calls Try.prog 13 #[Value.pointer (some ⟨m, 0, none⟩), Value.agg #[Value.slice A_L L.length c_L], a.v] w (fun e w' => ∃ V' : VT22, ∃ L' : List Rc22, ∃ (A_o : Option Addr) (c_o : Nat), e = .returned (Value.tuple #[Value.agg #[Value.slice A_o (L').length c_o], Value.bool true]) ∧ (∀ n, Rel22 n L V → Rel22 (n + 1) (layA L a) V') ∧ (L' = layA L a) ∧ (L').length ≤ c_o ∧ (roR A_o 8 enCell22 L').from_ [roR A_L 8 enCell22 L] w w' ∧ (∀ x_ ∈ (ShR m b V').fp, x_ ∉ (roR A_o 8 enCell22 L').fp) ∧ Upd (ShR m b V) (ShR m b V') w w') := by
 have _hu := hc_L; have _hv := hr_L; clear _hu _hv
 have _hu := ho_p; have _hv := hl_p; clear _hu _hv
 have _hu := hR; clear _hu
 have _hu := hx; clear _hu
 refine enter_E 63 Try.func13 rfl rfl (by kernel_rfl) (L := [(0, Value.pointer (some ⟨m, 0, none⟩)), (1, Value.agg #[Value.slice A_L L.length c_L]), (2, a.v)]) (by kernel_rfl) ?_
 intro ac hA
 have hW : Ws w (· ∈ (ShR m b V).fp) [ShR m b V] [] w := objW ho_p hl_p
 clear ho_p hl_p
 have hW := hW.addG (roR A_L 8 enCell22 L) hr_L (roR_lt hr_L) (by intro r_ hr_; simp only [List.mem_singleton] at hr_; subst hr_; exact hd_L)
 refine wp_seq ?_
 refine wp_region_lit ?_
 refine st_s hA (Runs.cells (fun b => Value.pointer (some ⟨b, 0, none⟩)) #[Value.slice A_L L.length c_L] 45 (fun _ => by kernel_rfl) hW ?_); clear hA ac hW; intro b1 w2 hW hb1 hfw2 ac hA
 refine st_s hA (Runs.cells (fun b => Value.pointer (some ⟨b, 0, none⟩)) #[Value.int .u32 a.addr, Value.int .u64 a.x.wr, Value.int .i64 a.x.ws.f, Value.int .i64 a.x.ws.pc, Value.int .u64 a.x.rd, Value.int .i64 a.x.rs.f, Value.int .i64 a.x.rs.pc, Value.int .i64 a.x.vec] 37 (fun _ => by kernel_rfl) hW ?_); clear hA ac hW; intro b3 w4 hW hb3 hfw4 ac hA
 refine st_s hA (Runs.cells (fun b => Value.pointer (some ⟨b, 0, none⟩)) #[Value.slice none 0 0] 45 (fun _ => by kernel_rfl) hW ?_); clear hA ac hW; intro b5 w6 hW hb5 hfw6 ac hA
 refine st_p (Value.bool false) hA ?_; clear hA ac; intro ac hA
 refine wpList_nil ?_
 refine thenN ?_
 refine wp_seq ?_
 obtain ⟨n_, hn_, hR_⟩ := hR; obtain ⟨hw1, hw2, hw3, hw4⟩ := hR_.more (by omega); have hw5 := hR_.rise
 refine wp_region_lit ?_
 refine st_p (Value.pointer (some ⟨m, 0, none⟩)) hA ?_; clear hA ac; intro ac hA
 refine st_p (Value.pointer (some ⟨b3, 0, none⟩)) hA ?_; clear hA ac; intro ac hA
 refine st_q (Value.int .u32 a.addr) hA hW.cls (Rd.load (b := b3) (i := 0) (by kernel_rfl) (fun _ hw => (hw.1).cel 1 rfl) (by kernel_rfl)) ?_; clear hA ac; intro ac hA
 refine st_p (Value.pointer (some ⟨b3, 1, none⟩)) hA ?_; clear hA ac; intro ac hA
 refine st_q (Value.agg #[Value.int .u64 a.x.wr, Value.int .i64 a.x.ws.f, Value.int .i64 a.x.ws.pc, Value.int .u64 a.x.rd, Value.int .i64 a.x.rs.f, Value.int .i64 a.x.rs.pc, Value.int .i64 a.x.vec]) hA hW.cls (Rd.load (b := b3) (i := 1) (by kernel_rfl) (fun _ hw => (hw.1).cel 1 rfl) (by kernel_rfl)) ?_; clear hA ac; intro ac hA
 refine st_s hA (Runs.call (fun _ => by kernel_rfl) (e_lay m b V (a.addr) a.x w6 ((hW).get 3 rfl) ((hW).lt _ (List.mem_of_getElem? (i := 3) rfl)) (by first | omega | assumption | exact hx.1 | exact hx.2) (by first | omega | assumption | exact hx.1 | exact hx.2)) ?_)
 rintro _ w7 ⟨u8, u9, u10, rfl, hw7_hE, hw7_hL, hu_⟩; refine ⟨_, rfl, ?_⟩; replace hW := hW.upd (H' := [Cel b5 #[Value.slice none 0 0] 45, Cel b3 #[Value.int .u32 a.addr, Value.int .u64 a.x.wr, Value.int .i64 a.x.ws.f, Value.int .i64 a.x.ws.pc, Value.int .u64 a.x.rd, Value.int .i64 a.x.rs.f, Value.int .i64 a.x.rs.pc, Value.int .i64 a.x.vec] 37, Cel b1 #[Value.slice A_L L.length c_L] 45, ShR m b u8]) 3 rfl hu_ rfl; clear hA ac; intro ac hA
 refine st_p (Value.tuple #[u9.v, Value.int .i64 u10]) hA ?_; clear hA ac; intro ac hA
 refine st_p (u9.v) hA ?_; clear hA ac; intro ac hA
 refine st_p (Value.int .i64 u10) hA ?_; clear hA ac; intro ac hA
 refine st_s hA (Runs.cells (fun b => Value.pointer (some ⟨b, 0, none⟩)) #[Value.int .u64 0, Value.int .i64 0, Value.int .i64 0, Value.int .u64 0, Value.int .i64 0, Value.int .i64 0, Value.int .i64 0] 31 (fun _ => by kernel_rfl) hW ?_); clear hA ac hW; intro b11 w12 hW hb11 hfw12 ac hA
 refine st_s hA (Runs.store (v := u9.v) (b := b11) (j := 0) (n := 7) (cs' := #[Value.int .u64 u9.wr, Value.int .i64 u9.ws.f, Value.int .i64 u9.ws.pc, Value.int .u64 u9.rd, Value.int .i64 u9.rs.f, Value.int .i64 u9.rs.pc, Value.int .i64 u9.vec]) (H' := [Cel b11 #[Value.int .u64 u9.wr, Value.int .i64 u9.ws.f, Value.int .i64 u9.ws.pc, Value.int .u64 u9.rd, Value.int .i64 u9.rs.f, Value.int .i64 u9.rs.pc, Value.int .i64 u9.vec] 31, Cel b5 #[Value.slice none 0 0] 45, Cel b3 #[Value.int .u32 a.addr, Value.int .u64 a.x.wr, Value.int .i64 a.x.ws.f, Value.int .i64 a.x.ws.pc, Value.int .u64 a.x.rd, Value.int .i64 a.x.rs.f, Value.int .i64 a.x.rs.pc, Value.int .i64 a.x.vec] 37, Cel b1 #[Value.slice A_L L.length c_L] 45, ShR m b u8]) (by kernel_rfl) (by kernel_rfl) (by kernel_rfl) (by kernel_rfl) (by kernel_rfl) hW 0 (by rfl) (Nat.le_of_ble_eq_true (by kernel_rfl)) (by kernel_rfl) (by rfl) ?_); clear hA ac hW; intro w13 hW ac hA
 refine st_p (Value.int .i64 u10) hA ?_; clear hA ac; intro ac hA
 refine wpList_nil ?_
 refine thenN ?_
 refine wp_seq ?_
 refine wp_seq ?_
 refine wp_region_lit ?_
 refine st_p (Value.pointer (some ⟨b3, 1, none⟩)) hA ?_; clear hA ac; intro ac hA
 refine st_q (Value.agg #[Value.int .u64 a.x.wr, Value.int .i64 a.x.ws.f, Value.int .i64 a.x.ws.pc, Value.int .u64 a.x.rd, Value.int .i64 a.x.rs.f, Value.int .i64 a.x.rs.pc, Value.int .i64 a.x.vec]) hA hW.cls (Rd.load (b := b3) (i := 1) (by kernel_rfl) (fun _ hw => (hw.1).cel 2 rfl) (by kernel_rfl)) ?_; clear hA ac; intro ac hA
 refine st_s hA (Runs.callN (v := Value.bool (Shade.ok a.x)) (fun _ => by kernel_rfl) hW (e_rright a.x w13 (by first | omega | assumption | exact hx.1 | exact hx.2)) ?_); clear hA ac hW; intro w14 hW hfw14 ac hA
 refine st_p (Value.bool (!(Shade.ok a.x))) hA ?_; clear hA ac; intro ac hA
 refine wpList_nil ?_
 refine thenN ?_
 refine wp_cond_split (t := !(Shade.ok a.x)) (hA.eval (by kernel_rfl)) (fun h15 => ?_) (fun h15 => ?_)
 · skip
   have h15 := not_t h15
   first
   | (exfalso; clear hA hW; omega)
   | (
     refine wp_seq ?_
     have hok_ : Shade.ok a.x = false := by first | assumption | (simpa using h15)
     have hlr_ := hw7_hL; rw [if_neg (by rw [hok_]; simp)] at hlr_; have hee_ := hw7_hE; rw [hok_] at hee_; have hwas_ := hlr_.2
     refine wp_cut (fun ac_ wl_ => Fm 63 [] [(0, Value.pointer (some ⟨m, 0, none⟩)), (1, Value.agg #[Value.slice A_L L.length c_L]), (2, a.v), (4, Value.pointer (some ⟨b1, 0, none⟩)), (5, Value.pointer (some ⟨b3, 0, none⟩)), (6, Value.pointer (some ⟨b5, 0, none⟩)), (7, Value.bool (((argErr (Shade.ok a.x)) : Int) == (2 : Int))), (8, Value.pointer (some ⟨b11, 0, none⟩)), (9, Value.int .i64 u10), (10, Value.tuple #[u9.v, Value.int .i64 u10]), (11, Value.pointer (some ⟨m, 0, none⟩)), (12, Value.pointer (some ⟨b3, 0, none⟩)), (13, Value.int .u32 a.addr), (14, Value.pointer (some ⟨b3, 1, none⟩)), (15, Value.agg #[Value.int .u64 a.x.wr, Value.int .i64 a.x.ws.f, Value.int .i64 a.x.ws.pc, Value.int .u64 a.x.rd, Value.int .i64 a.x.rs.f, Value.int .i64 a.x.rs.pc, Value.int .i64 a.x.vec]), (16, Value.tuple #[u9.v, Value.int .i64 u10]), (17, u9.v), (18, Value.int .i64 u10), (19, Value.pointer (some ⟨b3, 1, none⟩)), (20, Value.agg #[Value.int .u64 a.x.wr, Value.int .i64 a.x.ws.f, Value.int .i64 a.x.ws.pc, Value.int .u64 a.x.rd, Value.int .i64 a.x.rs.f, Value.int .i64 a.x.rs.pc, Value.int .i64 a.x.vec]), (21, Value.bool (Shade.ok a.x)), (22, Value.bool (!(Shade.ok a.x)))] ac_ ∧ Ws w (· ∈ (ShR m b V).fp) [Cel b11 #[Value.int .u64 u9.wr, Value.int .i64 u9.ws.f, Value.int .i64 u9.ws.pc, Value.int .u64 u9.rd, Value.int .i64 u9.rs.f, Value.int .i64 u9.rs.pc, Value.int .i64 u9.vec] 31, Cel b5 #[Value.slice A_L L.length c_L] 45, Cel b3 #[Value.int .u32 a.addr, Value.int .u64 a.x.wr, Value.int .i64 a.x.ws.f, Value.int .i64 a.x.ws.pc, Value.int .u64 a.x.rd, Value.int .i64 a.x.rs.f, Value.int .i64 a.x.rs.pc, Value.int .i64 a.x.vec] 37, Cel b1 #[Value.slice A_L L.length c_L] 45, ShR m b u8] [roR A_L 8 enCell22 L] wl_) ?_ ?_
     · refine sr_region (m := 18) (C := Ws w (· ∈ (ShR m b V).fp) [Cel b11 #[Value.int .u64 u9.wr, Value.int .i64 u9.ws.f, Value.int .i64 u9.ws.pc, Value.int .u64 u9.rd, Value.int .i64 u9.rs.f, Value.int .i64 u9.rs.pc, Value.int .i64 u9.vec] 31, Cel b5 #[Value.slice none 0 0] 45, Cel b3 #[Value.int .u32 a.addr, Value.int .u64 a.x.wr, Value.int .i64 a.x.ws.f, Value.int .i64 a.x.ws.pc, Value.int .u64 a.x.rd, Value.int .i64 a.x.rs.f, Value.int .i64 a.x.rs.pc, Value.int .i64 a.x.vec] 37, Cel b1 #[Value.slice A_L L.length c_L] 45, ShR m b u8] [roR A_L 8 enCell22 L]) (fun i => [0, 1].contains i) (fun i => [0, 1, 6, 11, 12, 13].contains i) (fun i => [2, 3, 4, 5, 7, 8, 9, 10, 14, 15, 17].contains i) (by kernel_rfl) (by kernel_rfl) (by kernel_rfl) (by kernel_rfl) hW ?_; clear hW; intro w16 hW hfw16 hR; have hC : Ws w (· ∈ (ShR m b V).fp) [Cel b11 #[Value.int .u64 u9.wr, Value.int .i64 u9.ws.f, Value.int .i64 u9.ws.pc, Value.int .u64 u9.rd, Value.int .i64 u9.rs.f, Value.int .i64 u9.rs.pc, Value.int .i64 u9.vec] 31, Cel b5 #[Value.slice none 0 0] 45, Cel b3 #[Value.int .u32 a.addr, Value.int .u64 a.x.wr, Value.int .i64 a.x.ws.f, Value.int .i64 a.x.ws.pc, Value.int .u64 a.x.rd, Value.int .i64 a.x.rs.f, Value.int .i64 a.x.rs.pc, Value.int .i64 a.x.vec] 37, Cel b1 #[Value.slice A_L L.length c_L] 45, ShR m b u8] [roR A_L 8 enCell22 L] w16 := hW.pick [0, 1, 2, 3, 4] (by decide) rfl
       refine sr_t 0 (Value.agg #[Value.slice A_L L.length c_L]) hR rfl hA hC (Rd.load (b := b1) (i := 0) (by kernel_rfl) (fun _ hw => (hw).cel 3 rfl) (by kernel_rfl)) ?_; clear hA ac; intro ac hA
       refine sr_t 1 (Value.agg #[Value.int .u64 u9.wr, Value.int .i64 u9.ws.f, Value.int .i64 u9.ws.pc, Value.int .u64 u9.rd, Value.int .i64 u9.rs.f, Value.int .i64 u9.rs.pc, Value.int .i64 u9.vec]) hR rfl hA hC (Rd.load (b := b11) (i := 0) (by kernel_rfl) (fun _ hw => (hw).cel 0 rfl) (by kernel_rfl)) ?_; clear hA ac; intro ac hA
       refine sr_p 2 (Value.agg #[Value.int .u64 0, Value.int .i64 0, Value.int .i64 0, Value.int .u64 0, Value.int .i64 0, Value.int .i64 0, Value.int .i64 0]) hR rfl hA ?_; clear hA ac; intro ac hA
       refine sr_q 3 (Value.bool (decide (u9 = (⟨0, (⟨0, 0⟩ : Site), 0, (⟨0, 0⟩ : Site), 0⟩ : Shade)))) hR rfl hA (Rd.eqS (u := u9.v) (v := (⟨0, (⟨0, 0⟩ : Site), 0, (⟨0, 0⟩ : Site), 0⟩ : Shade).v) (by kernel_rfl) (by kernel_rfl) rfl rfl (by kernel_rfl) (fun w => eq_Shade w u9 (⟨0, (⟨0, 0⟩ : Site), 0, (⟨0, 0⟩ : Site), 0⟩ : Shade))) ?_; clear hA ac; intro ac hA
       refine sr_p 4 (Value.bool (decide (u9 = (⟨0, (⟨0, 0⟩ : Site), 0, (⟨0, 0⟩ : Site), 0⟩ : Shade)))) hR rfl hA ?_; clear hA ac; intro ac hA
       rw [show (decide (u9 = (⟨0, (⟨0, 0⟩ : Site), 0, (⟨0, 0⟩ : Site), 0⟩ : Shade))) = true from (by first | exact decide_eq_true hwas_ | (rw [hee_]; rfl) | (rw [hee_]; simp [argErr]; done))] at hA
       refine sr_p 5 (Value.int .i64 u10) hR rfl hA ?_; clear hA ac; intro ac hA
       refine sr_one (i := 6) (by kernel_rfl) (sr_d rfl hA (Runs.callS (v := Value.int .i64 (u10)) (fun _ => by kernel_rfl) (e_num22 (u10) w16) ?_)); clear hA ac; intro  ac hA
       refine ⟨⟨fun _ => (hW.pick [0, 1, 2, 3, 4] (by decide) rfl).pickG [0] rfl, fun h => absurd h (by decide)⟩, ?_⟩; have hC : Ws w (· ∈ (ShR m b V).fp) [Cel b11 #[Value.int .u64 u9.wr, Value.int .i64 u9.ws.f, Value.int .i64 u9.ws.pc, Value.int .u64 u9.rd, Value.int .i64 u9.rs.f, Value.int .i64 u9.rs.pc, Value.int .i64 u9.vec] 31, Cel b5 #[Value.slice none 0 0] 45, Cel b3 #[Value.int .u32 a.addr, Value.int .u64 a.x.wr, Value.int .i64 a.x.ws.f, Value.int .i64 a.x.ws.pc, Value.int .u64 a.x.rd, Value.int .i64 a.x.rs.f, Value.int .i64 a.x.rs.pc, Value.int .i64 a.x.vec] 37, Cel b1 #[Value.slice A_L L.length c_L] 45, ShR m b u8] [roR A_L 8 enCell22 L] w16 := (hW.pick [0, 1, 2, 3, 4] (by decide) rfl).pickG [0] rfl
       refine sr_p 7 (Value.bool (((u10) : Int) == (2 : Int))) hR rfl hA ?_; clear hA ac; intro ac hA
       refine sr_p 8 (Value.bool (((u10) : Int) == (2 : Int))) hR rfl hA ?_; clear hA ac; intro ac hA
       refine sr_p 9 (Value.bool (((u10) : Int) == (2 : Int))) hR rfl hA ?_; clear hA ac; intro ac hA
       rw [show (((u10) : Int) == (2 : Int)) = true from (by first | exact decide_eq_true hwas_ | (rw [hee_]; rfl) | (rw [hee_]; simp [argErr]; done))] at hA
       refine sr_p 10 (Value.pointer (some ⟨b3, 1, none⟩)) hR rfl hA ?_; clear hA ac; intro ac hA
       refine sr_one (i := 11) (by kernel_rfl) (sr_d rfl hA (Runs.ofRd (v := Value.agg #[Value.int .u64 a.x.wr, Value.int .i64 a.x.ws.f, Value.int .i64 a.x.ws.pc, Value.int .u64 a.x.rd, Value.int .i64 a.x.rs.f, Value.int .i64 a.x.rs.pc, Value.int .i64 a.x.vec]) (C' := Ws w (· ∈ (ShR m b V).fp) [Cel b11 #[Value.int .u64 u9.wr, Value.int .i64 u9.ws.f, Value.int .i64 u9.ws.pc, Value.int .u64 u9.rd, Value.int .i64 u9.rs.f, Value.int .i64 u9.rs.pc, Value.int .i64 u9.vec] 31, Cel b5 #[Value.slice none 0 0] 45, Cel b3 #[Value.int .u32 a.addr, Value.int .u64 a.x.wr, Value.int .i64 a.x.ws.f, Value.int .i64 a.x.ws.pc, Value.int .u64 a.x.rd, Value.int .i64 a.x.rs.f, Value.int .i64 a.x.rs.pc, Value.int .i64 a.x.vec] 37, Cel b1 #[Value.slice A_L L.length c_L] 45, ShR m b u8] [roR A_L 8 enCell22 L]) hW (Rd.load (b := b3) (i := 1) (by kernel_rfl) (fun _ hw => (hw).cel 2 rfl) (by kernel_rfl)) ?_)); clear hA ac; intro  ac hA
       refine ⟨⟨fun _ => (hW.pick [0, 1, 2, 3, 4] (by decide) rfl).pickG [0] rfl, fun h => absurd h (by decide)⟩, ?_⟩; have hC : Ws w (· ∈ (ShR m b V).fp) [Cel b11 #[Value.int .u64 u9.wr, Value.int .i64 u9.ws.f, Value.int .i64 u9.ws.pc, Value.int .u64 u9.rd, Value.int .i64 u9.rs.f, Value.int .i64 u9.rs.pc, Value.int .i64 u9.vec] 31, Cel b5 #[Value.slice none 0 0] 45, Cel b3 #[Value.int .u32 a.addr, Value.int .u64 a.x.wr, Value.int .i64 a.x.ws.f, Value.int .i64 a.x.ws.pc, Value.int .u64 a.x.rd, Value.int .i64 a.x.rs.f, Value.int .i64 a.x.rs.pc, Value.int .i64 a.x.vec] 37, Cel b1 #[Value.slice A_L L.length c_L] 45, ShR m b u8] [roR A_L 8 enCell22 L] w16 := (hW.pick [0, 1, 2, 3, 4] (by decide) rfl).pickG [0] rfl
       refine sr_one (i := 12) (by kernel_rfl) (sr_d rfl hA (Runs.callN (v := Value.int .i64 (argErr (Shade.ok a.x))) (fun _ => by kernel_rfl) hW (e_check a.x w16 (by first | omega | assumption | exact hx.1 | exact hx.2)) ?_)); clear hA ac hW; intro w17 hW hfw17 ac hA
       refine ⟨⟨fun _ => (hW.pick [0, 1, 2, 3, 4] (by decide) rfl).pickG [0] rfl, fun h => absurd h (by decide)⟩, ?_⟩; have hC : Ws w (· ∈ (ShR m b V).fp) [Cel b11 #[Value.int .u64 u9.wr, Value.int .i64 u9.ws.f, Value.int .i64 u9.ws.pc, Value.int .u64 u9.rd, Value.int .i64 u9.rs.f, Value.int .i64 u9.rs.pc, Value.int .i64 u9.vec] 31, Cel b5 #[Value.slice none 0 0] 45, Cel b3 #[Value.int .u32 a.addr, Value.int .u64 a.x.wr, Value.int .i64 a.x.ws.f, Value.int .i64 a.x.ws.pc, Value.int .u64 a.x.rd, Value.int .i64 a.x.rs.f, Value.int .i64 a.x.rs.pc, Value.int .i64 a.x.vec] 37, Cel b1 #[Value.slice A_L L.length c_L] 45, ShR m b u8] [roR A_L 8 enCell22 L] w17 := (hW.pick [0, 1, 2, 3, 4] (by decide) rfl).pickG [0] rfl
       refine sr_one (i := 13) (by kernel_rfl) (sr_d rfl hA (Runs.callS (v := Value.int .i64 (argErr (Shade.ok a.x))) (fun _ => by kernel_rfl) (e_num22 (argErr (Shade.ok a.x)) w17) ?_)); clear hA ac; intro  ac hA
       refine ⟨⟨fun _ => (hW.pick [0, 1, 2, 3, 4] (by decide) rfl).pickG [0] rfl, fun h => absurd h (by decide)⟩, ?_⟩; have hC : Ws w (· ∈ (ShR m b V).fp) [Cel b11 #[Value.int .u64 u9.wr, Value.int .i64 u9.ws.f, Value.int .i64 u9.ws.pc, Value.int .u64 u9.rd, Value.int .i64 u9.rs.f, Value.int .i64 u9.rs.pc, Value.int .i64 u9.vec] 31, Cel b5 #[Value.slice none 0 0] 45, Cel b3 #[Value.int .u32 a.addr, Value.int .u64 a.x.wr, Value.int .i64 a.x.ws.f, Value.int .i64 a.x.ws.pc, Value.int .u64 a.x.rd, Value.int .i64 a.x.rs.f, Value.int .i64 a.x.rs.pc, Value.int .i64 a.x.vec] 37, Cel b1 #[Value.slice A_L L.length c_L] 45, ShR m b u8] [roR A_L 8 enCell22 L] w17 := (hW.pick [0, 1, 2, 3, 4] (by decide) rfl).pickG [0] rfl
       refine sr_p 14 (Value.bool (((argErr (Shade.ok a.x)) : Int) == (2 : Int))) hR rfl hA ?_; clear hA ac; intro ac hA
       refine sr_p 15 (Value.bool (((argErr (Shade.ok a.x)) : Int) == (2 : Int))) hR rfl hA ?_; clear hA ac; intro ac hA
       refine sr_one (i := 16) (by kernel_rfl) (sr_d rfl hA (Runs.store (v := Value.agg #[Value.slice A_L L.length c_L]) (b := b5) (j := 0) (n := 1) (cs' := #[Value.slice A_L L.length c_L]) (H' := [Cel b11 #[Value.int .u64 u9.wr, Value.int .i64 u9.ws.f, Value.int .i64 u9.ws.pc, Value.int .u64 u9.rd, Value.int .i64 u9.rs.f, Value.int .i64 u9.rs.pc, Value.int .i64 u9.vec] 31, Cel b5 #[Value.slice A_L L.length c_L] 45, Cel b3 #[Value.int .u32 a.addr, Value.int .u64 a.x.wr, Value.int .i64 a.x.ws.f, Value.int .i64 a.x.ws.pc, Value.int .u64 a.x.rd, Value.int .i64 a.x.rs.f, Value.int .i64 a.x.rs.pc, Value.int .i64 a.x.vec] 37, Cel b1 #[Value.slice A_L L.length c_L] 45, ShR m b u8]) (by kernel_rfl) (by kernel_rfl) (by kernel_rfl) (by kernel_rfl) (by kernel_rfl) hW 1 (by rfl) (Nat.le_of_ble_eq_true (by kernel_rfl)) (by kernel_rfl) (by rfl) ?_)); clear hA ac hW; intro w18 hW ac hA
       refine ⟨⟨fun h => absurd h (by decide), fun h => absurd h (by decide)⟩, ?_⟩
       refine sr_p 17 (Value.bool (((argErr (Shade.ok a.x)) : Int) == (2 : Int))) hR rfl hA ?_; clear hA ac; intro ac hA
       refine sr_done (by kernel_rfl) ?_ _
       exact ⟨hA.sub ⟨⟨by kernel_rfl, by kernel_rfl⟩, ⟨by kernel_rfl, by kernel_rfl⟩, ⟨by kernel_rfl, by kernel_rfl⟩, ⟨by kernel_rfl, by kernel_rfl⟩, ⟨by kernel_rfl, by kernel_rfl⟩, ⟨by kernel_rfl, by kernel_rfl⟩, ⟨by kernel_rfl, by kernel_rfl⟩, ⟨by kernel_rfl, by kernel_rfl⟩, ⟨by kernel_rfl, by kernel_rfl⟩, ⟨by kernel_rfl, by kernel_rfl⟩, ⟨by kernel_rfl, by kernel_rfl⟩, ⟨by kernel_rfl, by kernel_rfl⟩, ⟨by kernel_rfl, by kernel_rfl⟩, ⟨by kernel_rfl, by kernel_rfl⟩, ⟨by kernel_rfl, by kernel_rfl⟩, ⟨by kernel_rfl, by kernel_rfl⟩, ⟨by kernel_rfl, by kernel_rfl⟩, ⟨by kernel_rfl, by kernel_rfl⟩, ⟨by kernel_rfl, by kernel_rfl⟩, ⟨by kernel_rfl, by kernel_rfl⟩, ⟨by kernel_rfl, by kernel_rfl⟩, ⟨by kernel_rfl, by kernel_rfl⟩, trivial⟩, (hW.pick [0, 1, 2, 3, 4] (by decide) rfl).pickG [0] rfl⟩
     clear hA ac hW; rintro ac w19 ⟨hA, hW⟩
     refine thenN ?_
     refine wp_ret ?_
     refine thenR ?_
     refine ret2 (v1 := Value.agg #[Value.slice A_L L.length c_L]) (v2 := Value.bool (((argErr (Shade.ok a.x)) : Int) == (2 : Int))) (by rfl) hA (Got.cell (b := b5) (i := 0) hA (by kernel_rfl) (by kernel_rfl) (hW.cel 1 rfl) (by kernel_rfl)) (Got.tmp hA (by kernel_rfl) (by kernel_rfl)) ?_
     clear hA
     exact ⟨u8, L, A_L, c_L, by first | rfl | (rw [hok_]; rfl) | (simp [hok_, argErr]; done), by exact fun n_ r_ => r_.act hw7_hL hx.1, by unfold layA; rw [if_neg (by rw [hok_]; simp)], (by first | assumption | omega | (simp; omega) | simp), (hW.outSrc 0 rfl (src_arg (.head _))), (hW.gd _ (List.mem_of_getElem? (i := 0) rfl) _ (List.mem_of_getElem? (i := 4) rfl)), (hW.pick [4] (by decide) rfl).updDone 0 rfl⟩)
 · skip
   have h15 := not_f h15
   first
   | (exfalso; clear hA hW; omega)
   | (
     refine wp_skip ?_
     refine thenN ?_
     refine wp_seq ?_
     have hok_ : Shade.ok a.x = true := by first | assumption | (simpa using h15)
     have hlr_ := hw7_hL; rw [if_pos hok_] at hlr_; have hee_ := hw7_hE; rw [hok_] at hee_; have hwas_ := hlr_.2.trans (hR_.at_ _)
     refine wp_cut (fun ac_ wl_ => ∃ Aor4_5 : Option Addr, ∃ cor4_5 : Nat, ∃ g0r4_5 : List Rc22, ((g0r4_5).length ≤ cor4_5) ∧ (g0r4_5 = layL L (a.addr) a.x) ∧ (Res.src (roR Aor4_5 8 enCell22 g0r4_5) [roR A_L 8 enCell22 L] w) ∧ Fm 63 [] [(0, Value.pointer (some ⟨m, 0, none⟩)), (1, Value.agg #[Value.slice A_L L.length c_L]), (2, a.v), (4, Value.pointer (some ⟨b1, 0, none⟩)), (5, Value.pointer (some ⟨b3, 0, none⟩)), (6, Value.pointer (some ⟨b5, 0, none⟩)), (7, Value.bool (((argErr (Shade.ok a.x)) : Int) == (0 : Int))), (8, Value.pointer (some ⟨b11, 0, none⟩)), (9, Value.int .i64 u10), (10, Value.tuple #[u9.v, Value.int .i64 u10]), (11, Value.pointer (some ⟨m, 0, none⟩)), (12, Value.pointer (some ⟨b3, 0, none⟩)), (13, Value.int .u32 a.addr), (14, Value.pointer (some ⟨b3, 1, none⟩)), (15, Value.agg #[Value.int .u64 a.x.wr, Value.int .i64 a.x.ws.f, Value.int .i64 a.x.ws.pc, Value.int .u64 a.x.rd, Value.int .i64 a.x.rs.f, Value.int .i64 a.x.rs.pc, Value.int .i64 a.x.vec]), (16, Value.tuple #[u9.v, Value.int .i64 u10]), (17, u9.v), (18, Value.int .i64 u10), (19, Value.pointer (some ⟨b3, 1, none⟩)), (20, Value.agg #[Value.int .u64 a.x.wr, Value.int .i64 a.x.ws.f, Value.int .i64 a.x.ws.pc, Value.int .u64 a.x.rd, Value.int .i64 a.x.rs.f, Value.int .i64 a.x.rs.pc, Value.int .i64 a.x.vec]), (21, Value.bool (Shade.ok a.x)), (22, Value.bool (!(Shade.ok a.x)))] ac_ ∧ Ws w (· ∈ (ShR m b V).fp) [Cel b11 #[Value.int .u64 u9.wr, Value.int .i64 u9.ws.f, Value.int .i64 u9.ws.pc, Value.int .u64 u9.rd, Value.int .i64 u9.rs.f, Value.int .i64 u9.rs.pc, Value.int .i64 u9.vec] 31, Cel b5 #[Value.slice Aor4_5 (g0r4_5).length cor4_5] 45, Cel b3 #[Value.int .u32 a.addr, Value.int .u64 a.x.wr, Value.int .i64 a.x.ws.f, Value.int .i64 a.x.ws.pc, Value.int .u64 a.x.rd, Value.int .i64 a.x.rs.f, Value.int .i64 a.x.rs.pc, Value.int .i64 a.x.vec] 37, Cel b1 #[Value.slice A_L L.length c_L] 45, ShR m b u8] [roR Aor4_5 8 enCell22 g0r4_5, roR A_L 8 enCell22 L] wl_) ?_ ?_
     · refine sr_region (m := 26) (C := Ws w (· ∈ (ShR m b V).fp) [Cel b11 #[Value.int .u64 u9.wr, Value.int .i64 u9.ws.f, Value.int .i64 u9.ws.pc, Value.int .u64 u9.rd, Value.int .i64 u9.rs.f, Value.int .i64 u9.rs.pc, Value.int .i64 u9.vec] 31, Cel b5 #[Value.slice none 0 0] 45, Cel b3 #[Value.int .u32 a.addr, Value.int .u64 a.x.wr, Value.int .i64 a.x.ws.f, Value.int .i64 a.x.ws.pc, Value.int .u64 a.x.rd, Value.int .i64 a.x.rs.f, Value.int .i64 a.x.rs.pc, Value.int .i64 a.x.vec] 37, Cel b1 #[Value.slice A_L L.length c_L] 45, ShR m b u8] [roR A_L 8 enCell22 L]) (fun i => [0, 2, 4, 6, 7, 9].contains i) (fun i => [0, 2, 4, 5, 6, 7, 9, 10].contains i) (fun i => [1, 3, 8, 11, 12, 13, 15, 16, 17, 18, 22, 23, 25].contains i) (by kernel_rfl) (by kernel_rfl) (by kernel_rfl) (by kernel_rfl) hW ?_; clear hW; intro w20 hW hfw20 hR; have hC : Ws w (· ∈ (ShR m b V).fp) [Cel b11 #[Value.int .u64 u9.wr, Value.int .i64 u9.ws.f, Value.int .i64 u9.ws.pc, Value.int .u64 u9.rd, Value.int .i64 u9.rs.f, Value.int .i64 u9.rs.pc, Value.int .i64 u9.vec] 31, Cel b5 #[Value.slice none 0 0] 45, Cel b3 #[Value.int .u32 a.addr, Value.int .u64 a.x.wr, Value.int .i64 a.x.ws.f, Value.int .i64 a.x.ws.pc, Value.int .u64 a.x.rd, Value.int .i64 a.x.rs.f, Value.int .i64 a.x.rs.pc, Value.int .i64 a.x.vec] 37, Cel b1 #[Value.slice A_L L.length c_L] 45, ShR m b u8] [roR A_L 8 enCell22 L] w20 := hW.pick [0, 1, 2, 3, 4] (by decide) rfl
       refine sr_t 0 (Value.agg #[Value.slice A_L L.length c_L]) hR rfl hA hC (Rd.load (b := b1) (i := 0) (by kernel_rfl) (fun _ hw => (hw).cel 3 rfl) (by kernel_rfl)) ?_; clear hA ac; intro ac hA
       refine sr_p 1 (Value.pointer (some ⟨b3, 0, none⟩)) hR rfl hA ?_; clear hA ac; intro ac hA
       refine sr_t 2 (Value.int .u32 a.addr) hR rfl hA hC (Rd.load (b := b3) (i := 0) (by kernel_rfl) (fun _ hw => (hw).cel 2 rfl) (by kernel_rfl)) ?_; clear hA ac; intro ac hA
       refine sr_p 3 (Value.pointer (some ⟨b3, 1, none⟩)) hR rfl hA ?_; clear hA ac; intro ac hA
       refine sr_t 4 (Value.agg #[Value.int .u64 a.x.wr, Value.int .i64 a.x.ws.f, Value.int .i64 a.x.ws.pc, Value.int .u64 a.x.rd, Value.int .i64 a.x.rs.f, Value.int .i64 a.x.rs.pc, Value.int .i64 a.x.vec]) hR rfl hA hC (Rd.load (b := b3) (i := 1) (by kernel_rfl) (fun _ hw => (hw).cel 2 rfl) (by kernel_rfl)) ?_; clear hA ac; intro ac hA
       refine sr_t 6 (Value.agg #[Value.int .u64 u9.wr, Value.int .i64 u9.ws.f, Value.int .i64 u9.ws.pc, Value.int .u64 u9.rd, Value.int .i64 u9.rs.f, Value.int .i64 u9.rs.pc, Value.int .i64 u9.vec]) hR rfl hA hC (Rd.load (b := b11) (i := 0) (by kernel_rfl) (fun _ hw => (hw).cel 0 rfl) (by kernel_rfl)) ?_; clear hA ac; intro ac hA
       refine sr_t 7 (Value.agg #[Value.slice A_L L.length c_L]) hR rfl hA hC (Rd.load (b := b1) (i := 0) (by kernel_rfl) (fun _ hw => (hw).cel 3 rfl) (by kernel_rfl)) ?_; clear hA ac; intro ac hA
       refine sr_p 8 (Value.pointer (some ⟨b3, 0, none⟩)) hR rfl hA ?_; clear hA ac; intro ac hA
       refine sr_t 9 (Value.int .u32 a.addr) hR rfl hA hC (Rd.load (b := b3) (i := 0) (by kernel_rfl) (fun _ hw => (hw).cel 2 rfl) (by kernel_rfl)) ?_; clear hA ac; intro ac hA
       refine sr_one (i := 5) (by kernel_rfl) (sr_d rfl hA (Runs.call (fun _ => by kernel_rfl) (e_rlay A_L c_L L (a.addr) a.x w20 ((hW).getG 0 rfl) (by first | assumption | omega | (simp; omega) | simp) (by first | omega | assumption | exact hx.1 | exact hx.2) (by first | omega | assumption | exact hx.1 | exact hx.2)) ?_))
       rintro _ w21 ⟨g0r4_5, Aor4_5, cor4_5, rfl, hr4_5_hS, hccor4_5, hfcor4_5, hfw21⟩; refine ⟨_, rfl, ?_⟩; have hW0 := hW; have hW := hW0.call hfw21
       have hW := hW0.addFromAt hW hfcor4_5 (in_cons (in_at 0 rfl) in_nil)
       have hscor4_5 : Res.src (roR Aor4_5 8 enCell22 g0r4_5) [roR A_L 8 enCell22 L] w := src_call hfcor4_5 (srcs_cons (src_arg (.head _)) srcs_nil) hW0.fr.size
       clear hW0 hA ac; intro ac hA
       refine ⟨⟨fun _ => (hW.pick [0, 1, 2, 3, 4] (by decide) rfl).pickG [1] rfl, fun h => absurd h (by decide)⟩, ?_⟩; have hC : Ws w (· ∈ (ShR m b V).fp) [Cel b11 #[Value.int .u64 u9.wr, Value.int .i64 u9.ws.f, Value.int .i64 u9.ws.pc, Value.int .u64 u9.rd, Value.int .i64 u9.rs.f, Value.int .i64 u9.rs.pc, Value.int .i64 u9.vec] 31, Cel b5 #[Value.slice none 0 0] 45, Cel b3 #[Value.int .u32 a.addr, Value.int .u64 a.x.wr, Value.int .i64 a.x.ws.f, Value.int .i64 a.x.ws.pc, Value.int .u64 a.x.rd, Value.int .i64 a.x.rs.f, Value.int .i64 a.x.rs.pc, Value.int .i64 a.x.vec] 37, Cel b1 #[Value.slice A_L L.length c_L] 45, ShR m b u8] [roR A_L 8 enCell22 L] w21 := (hW.pick [0, 1, 2, 3, 4] (by decide) rfl).pickG [1] rfl
       refine sr_one (i := 10) (by kernel_rfl) (sr_d rfl hA (Runs.callN (v := (atL L (a.addr)).v) (fun _ => by kernel_rfl) hW (e_rat A_L c_L L (a.addr) w21 ((hW).getG 1 rfl) (by first | assumption | omega | (simp; omega) | simp) (by first | omega | assumption | exact hx.1 | exact hx.2)) ?_)); clear hA ac hW; intro w22 hW hfw22 ac hA
       refine ⟨⟨fun _ => (hW.pick [0, 1, 2, 3, 4] (by decide) rfl).pickG [1] rfl, fun h => absurd h (by decide)⟩, ?_⟩; have hC : Ws w (· ∈ (ShR m b V).fp) [Cel b11 #[Value.int .u64 u9.wr, Value.int .i64 u9.ws.f, Value.int .i64 u9.ws.pc, Value.int .u64 u9.rd, Value.int .i64 u9.rs.f, Value.int .i64 u9.rs.pc, Value.int .i64 u9.vec] 31, Cel b5 #[Value.slice none 0 0] 45, Cel b3 #[Value.int .u32 a.addr, Value.int .u64 a.x.wr, Value.int .i64 a.x.ws.f, Value.int .i64 a.x.ws.pc, Value.int .u64 a.x.rd, Value.int .i64 a.x.rs.f, Value.int .i64 a.x.rs.pc, Value.int .i64 a.x.vec] 37, Cel b1 #[Value.slice A_L L.length c_L] 45, ShR m b u8] [roR A_L 8 enCell22 L] w22 := (hW.pick [0, 1, 2, 3, 4] (by decide) rfl).pickG [1] rfl
       refine sr_q 11 (Value.bool (decide (u9 = (atL L (a.addr))))) hR rfl hA (Rd.eqS (u := u9.v) (v := (atL L (a.addr)).v) (by kernel_rfl) (by kernel_rfl) rfl rfl (by kernel_rfl) (fun w => eq_Shade w u9 (atL L (a.addr)))) ?_; clear hA ac; intro ac hA
       refine sr_p 12 (Value.bool (decide (u9 = (atL L (a.addr))))) hR rfl hA ?_; clear hA ac; intro ac hA
       rw [show (decide (u9 = (atL L (a.addr)))) = true from (by first | exact decide_eq_true hwas_ | (rw [hee_]; rfl) | (rw [hee_]; simp [argErr]; done))] at hA
       refine sr_p 13 (Value.int .i64 u10) hR rfl hA ?_; clear hA ac; intro ac hA
       refine sr_one (i := 14) (by kernel_rfl) (sr_d rfl hA (Runs.callS (v := Value.int .i64 (u10)) (fun _ => by kernel_rfl) (e_num22 (u10) w22) ?_)); clear hA ac; intro  ac hA
       refine ⟨⟨fun h => absurd h (by decide), fun h => absurd h (by decide)⟩, ?_⟩
       refine sr_p 15 (Value.bool (((u10) : Int) == (0 : Int))) hR rfl hA ?_; clear hA ac; intro ac hA
       refine sr_p 16 (Value.bool (((u10) : Int) == (0 : Int))) hR rfl hA ?_; clear hA ac; intro ac hA
       refine sr_p 17 (Value.bool (((u10) : Int) == (0 : Int))) hR rfl hA ?_; clear hA ac; intro ac hA
       rw [show (((u10) : Int) == (0 : Int)) = true from (by first | exact decide_eq_true hwas_ | (rw [hee_]; rfl) | (rw [hee_]; simp [argErr]; done))] at hA
       refine sr_p 18 (Value.pointer (some ⟨b3, 1, none⟩)) hR rfl hA ?_; clear hA ac; intro ac hA
       refine sr_one (i := 19) (by kernel_rfl) (sr_d rfl hA (Runs.ofRd (v := Value.agg #[Value.int .u64 a.x.wr, Value.int .i64 a.x.ws.f, Value.int .i64 a.x.ws.pc, Value.int .u64 a.x.rd, Value.int .i64 a.x.rs.f, Value.int .i64 a.x.rs.pc, Value.int .i64 a.x.vec]) (C' := Ws w (· ∈ (ShR m b V).fp) [Cel b11 #[Value.int .u64 u9.wr, Value.int .i64 u9.ws.f, Value.int .i64 u9.ws.pc, Value.int .u64 u9.rd, Value.int .i64 u9.rs.f, Value.int .i64 u9.rs.pc, Value.int .i64 u9.vec] 31, Cel b5 #[Value.slice none 0 0] 45, Cel b3 #[Value.int .u32 a.addr, Value.int .u64 a.x.wr, Value.int .i64 a.x.ws.f, Value.int .i64 a.x.ws.pc, Value.int .u64 a.x.rd, Value.int .i64 a.x.rs.f, Value.int .i64 a.x.rs.pc, Value.int .i64 a.x.vec] 37, Cel b1 #[Value.slice A_L L.length c_L] 45, ShR m b u8] [roR Aor4_5 8 enCell22 g0r4_5, roR A_L 8 enCell22 L]) hW (Rd.load (b := b3) (i := 1) (by kernel_rfl) (fun _ hw => (hw).cel 2 rfl) (by kernel_rfl)) ?_)); clear hA ac; intro  ac hA
       refine ⟨⟨fun h => absurd h (by decide), fun h => absurd h (by decide)⟩, ?_⟩
       refine sr_one (i := 20) (by kernel_rfl) (sr_d rfl hA (Runs.callN (v := Value.int .i64 (argErr (Shade.ok a.x))) (fun _ => by kernel_rfl) hW (e_check a.x w22 (by first | omega | assumption | exact hx.1 | exact hx.2)) ?_)); clear hA ac hW; intro w23 hW hfw23 ac hA
       refine ⟨⟨fun h => absurd h (by decide), fun h => absurd h (by decide)⟩, ?_⟩
       refine sr_one (i := 21) (by kernel_rfl) (sr_d rfl hA (Runs.callS (v := Value.int .i64 (argErr (Shade.ok a.x))) (fun _ => by kernel_rfl) (e_num22 (argErr (Shade.ok a.x)) w23) ?_)); clear hA ac; intro  ac hA
       refine ⟨⟨fun h => absurd h (by decide), fun h => absurd h (by decide)⟩, ?_⟩
       refine sr_p 22 (Value.bool (((argErr (Shade.ok a.x)) : Int) == (0 : Int))) hR rfl hA ?_; clear hA ac; intro ac hA
       refine sr_p 23 (Value.bool (((argErr (Shade.ok a.x)) : Int) == (0 : Int))) hR rfl hA ?_; clear hA ac; intro ac hA
       refine sr_one (i := 24) (by kernel_rfl) (sr_d rfl hA (Runs.store (v := Value.agg #[Value.slice Aor4_5 (g0r4_5).length cor4_5]) (b := b5) (j := 0) (n := 1) (cs' := #[Value.slice Aor4_5 (g0r4_5).length cor4_5]) (H' := [Cel b11 #[Value.int .u64 u9.wr, Value.int .i64 u9.ws.f, Value.int .i64 u9.ws.pc, Value.int .u64 u9.rd, Value.int .i64 u9.rs.f, Value.int .i64 u9.rs.pc, Value.int .i64 u9.vec] 31, Cel b5 #[Value.slice Aor4_5 (g0r4_5).length cor4_5] 45, Cel b3 #[Value.int .u32 a.addr, Value.int .u64 a.x.wr, Value.int .i64 a.x.ws.f, Value.int .i64 a.x.ws.pc, Value.int .u64 a.x.rd, Value.int .i64 a.x.rs.f, Value.int .i64 a.x.rs.pc, Value.int .i64 a.x.vec] 37, Cel b1 #[Value.slice A_L L.length c_L] 45, ShR m b u8]) (by kernel_rfl) (by kernel_rfl) (by kernel_rfl) (by kernel_rfl) (by kernel_rfl) hW 1 (by rfl) (Nat.le_of_ble_eq_true (by kernel_rfl)) (by kernel_rfl) (by rfl) ?_)); clear hA ac hW; intro w24 hW ac hA
       refine ⟨⟨fun h => absurd h (by decide), fun h => absurd h (by decide)⟩, ?_⟩
       refine sr_p 25 (Value.bool (((argErr (Shade.ok a.x)) : Int) == (0 : Int))) hR rfl hA ?_; clear hA ac; intro ac hA
       refine sr_done (by kernel_rfl) ?_ _
       exact ⟨Aor4_5, cor4_5, g0r4_5, hccor4_5, hr4_5_hS, hscor4_5, hA.sub ⟨⟨by kernel_rfl, by kernel_rfl⟩, ⟨by kernel_rfl, by kernel_rfl⟩, ⟨by kernel_rfl, by kernel_rfl⟩, ⟨by kernel_rfl, by kernel_rfl⟩, ⟨by kernel_rfl, by kernel_rfl⟩, ⟨by kernel_rfl, by kernel_rfl⟩, ⟨by kernel_rfl, by kernel_rfl⟩, ⟨by kernel_rfl, by kernel_rfl⟩, ⟨by kernel_rfl, by kernel_rfl⟩, ⟨by kernel_rfl, by kernel_rfl⟩, ⟨by kernel_rfl, by kernel_rfl⟩, ⟨by kernel_rfl, by kernel_rfl⟩, ⟨by kernel_rfl, by kernel_rfl⟩, ⟨by kernel_rfl, by kernel_rfl⟩, ⟨by kernel_rfl, by kernel_rfl⟩, ⟨by kernel_rfl, by kernel_rfl⟩, ⟨by kernel_rfl, by kernel_rfl⟩, ⟨by kernel_rfl, by kernel_rfl⟩, ⟨by kernel_rfl, by kernel_rfl⟩, ⟨by kernel_rfl, by kernel_rfl⟩, ⟨by kernel_rfl, by kernel_rfl⟩, ⟨by kernel_rfl, by kernel_rfl⟩, trivial⟩, (hW.pick [0, 1, 2, 3, 4] (by decide) rfl).pickG [0, 1] rfl⟩
     clear hA ac hW; rintro ac w25 ⟨Aor4_5, cor4_5, g0r4_5, hccor4_5, hr4_5_hS, hscor4_5, hA, hW⟩
     refine thenN ?_
     refine wp_ret ?_
     refine ret2 (v1 := Value.agg #[Value.slice Aor4_5 (g0r4_5).length cor4_5]) (v2 := Value.bool (((argErr (Shade.ok a.x)) : Int) == (0 : Int))) (by rfl) hA (Got.cell (b := b5) (i := 0) hA (by kernel_rfl) (by kernel_rfl) (hW.cel 1 rfl) (by kernel_rfl)) (Got.tmp hA (by kernel_rfl) (by kernel_rfl)) ?_
     clear hA
     exact ⟨u8, g0r4_5, Aor4_5, cor4_5, by first | rfl | (rw [hok_]; rfl) | (simp [hok_, argErr]; done), by exact fun n_ r_ => r_.act hw7_hL hx.1, by unfold layA; rw [if_pos hok_]; exact hr4_5_hS, (by first | assumption | omega | (simp; omega) | simp), (hW.outSrc 0 rfl hscor4_5), (hW.gd _ (List.mem_of_getElem? (i := 0) rfl) _ (List.mem_of_getElem? (i := 4) rfl)), (hW.pick [4] (by decide) rfl).updDone 0 rfl⟩)

set_option maxRecDepth 100000 in
theorem e_is22 (m : Nat) (b : Nat) (V : VT22) (A_L : Option Addr) (c_L : Nat) (L : List Rc22) (addr : Int) (many : Int) (w : World) (ho_p : (ShR m b V).p w) (hl_p : ∀ x_ ∈ (ShR m b V).fp, x_ < w.heap.size) (hr_L : RowAt w A_L 8 enCell22 L) (hc_L : L.length ≤ c_L) (hR : ∃ n, n < 50 ∧ Rel22 n L V) (hf : 0 ≤ addr ∧ addr ≤ 4294967295) : Calls Try.prog 14 #[Value.pointer (some ⟨m, 0, none⟩), Value.agg #[Value.slice A_L L.length c_L], Value.int .u32 addr, Value.int .i64 many] w (fun e w' => e = .returned (Value.bool true) ∧ Fr No w w') := by
 have _hu := hc_L; have _hv := hr_L; clear _hu _hv
 have _hu := ho_p; have _hv := hl_p; clear _hu _hv
 have _hu := hR; clear _hu
 have _hu := hf; clear _hu
 refine enter_F 82 Try.func14 rfl rfl (by kernel_rfl) (L := [(0, Value.pointer (some ⟨m, 0, none⟩)), (1, Value.agg #[Value.slice A_L L.length c_L]), (2, Value.int .u32 addr), (3, Value.int .i64 many)]) (by kernel_rfl) ?_
 intro ac hA
 have hW := Ws.start w No
 have hW := hW.arg hr_L
 have hW := hW.addG (ShR m b V) ho_p hl_p (by simp)
 clear ho_p hl_p
 refine wpIn_seq ?_
 refine wpIn_region_lit ?_
 refine stF hA (by kernel_rfl) (by kernel_rfl) (by kernel_rfl) (by kernel_rfl) (RunsF.of (Runs.cells (fun b => Value.pointer (some ⟨b, 0, none⟩)) #[Value.slice A_L L.length c_L] 45 (fun _ => by kernel_rfl) hW ?_)); clear hA ac hW; intro b1 w2 hW hb1 hfw2 ac hA
 refine stF hA (by kernel_rfl) (by kernel_rfl) (by kernel_rfl) (by kernel_rfl) (RunsF.of (Runs.cells (fun b => Value.pointer (some ⟨b, 0, none⟩)) #[Value.int .i64 many] 3 (fun _ => by kernel_rfl) hW ?_)); clear hA ac hW; intro b3 w4 hW hb3 hfw4 ac hA
 refine stF hA (by kernel_rfl) (by kernel_rfl) (by kernel_rfl) (by kernel_rfl) (RunsF.of (Runs.cells (fun b => Value.pointer (some ⟨b, 0, none⟩)) #[Value.bool false] 4 (fun _ => by kernel_rfl) hW ?_)); clear hA ac hW; intro b5 w6 hW hb5 hfw6 ac hA
 refine wpListIn_nil ?_
 refine thenN ?_
 refine wpIn_seq ?_
 obtain ⟨n_, hn_, hR_⟩ := hR; obtain ⟨hw1, hw2, hw3, hw4⟩ := hR_.more (by omega); have hal_ := allL_len L; have hpl_ := pagesM_len L; have hvl_ : (vecL L).length ≤ L.length := by unfold vecL; rw [List.length_map]; exact List.length_filter_le _ _
 refine wpIn_region_lit ?_
 refine st_rdF (v := Value.agg #[Value.slice A_L L.length c_L]) hA (by kernel_rfl) (by kernel_rfl) (by kernel_rfl) (by kernel_rfl) hW.cls (Rd.load (b := b1) (i := 0) (by kernel_rfl) (fun _ hw => (hw.1).cel 2 rfl) (by kernel_rfl)) ?_; clear hA ac; intro ac hA
 refine stF hA (by kernel_rfl) (by kernel_rfl) (by kernel_rfl) (by kernel_rfl) (RunsF.of (Runs.call (fun _ => by kernel_rfl) (e_rall A_L c_L L w6 ((hW).getG 1 rfl) (by first | assumption | omega | (simp; omega) | simp) (by first | omega | assumption | exact hR_.nd | (constructor <;> first | omega | (subst_vars; omega) | (simp_all; omega)))) ?_))
 rintro _ w7 ⟨g8, Ao9, co10, rfl, hw7_hp, hcco10, hu_⟩; refine ⟨_, rfl, ?_⟩; replace hW := hW.made hu_; clear hA ac; intro ac hA
 refine stF hA (by kernel_rfl) (by kernel_rfl) (by kernel_rfl) (by kernel_rfl) (RunsF.of (Runs.cells (fun b => Value.pointer (some ⟨b, 0, none⟩)) #[Value.slice none 0 0] 43 (fun _ => by kernel_rfl) hW ?_)); clear hA ac hW; intro b12 w13 hW hb12 hfw13 ac hA
 refine stF hA (by kernel_rfl) (by kernel_rfl) (by kernel_rfl) (by kernel_rfl) (RunsF.of (Runs.store (v := Value.slice Ao9 (g8).length co10) (b := b12) (j := 0) (n := 1) (cs' := #[Value.slice Ao9 (g8).length co10]) (H' := [Cel b12 #[Value.slice Ao9 (g8).length co10] 43, rowR 75 8 enCell22 (Value.slice Ao9 (g8).length co10) g8, Cel b5 #[Value.bool false] 4, Cel b3 #[Value.int .i64 many] 3, Cel b1 #[Value.slice A_L L.length c_L] 45]) (by kernel_rfl) (by kernel_rfl) (by kernel_rfl) (by kernel_rfl) (by kernel_rfl) hW 0 (by rfl) (Nat.le_of_ble_eq_true (by kernel_rfl)) (by kernel_rfl) (by rfl) ?_)); clear hA ac hW; intro w14 hW ac hA
 refine wpListIn_nil ?_
 refine thenN ?_
 refine wpIn_seq ?_
 refine wpIn_region_lit ?_
 refine st_rdF (v := Value.pointer (some ⟨m, 0, none⟩)) hA (by kernel_rfl) (by kernel_rfl) (by kernel_rfl) (by kernel_rfl) hW.cls (Rd.pure fun _ => by kernel_rfl) ?_; clear hA ac; intro ac hA
 refine stF hA (by kernel_rfl) (by kernel_rfl) (by kernel_rfl) (by kernel_rfl) (RunsF.of (Runs.call (fun _ => by kernel_rfl) (e_sall m b V w14 ((hW).getG 0 rfl) ((hW).glt _ (List.mem_of_getElem? (i := 0) rfl)) (by first | omega | assumption | exact hR_.nd | (constructor <;> first | omega | (subst_vars; omega) | (simp_all; omega))) (by first | omega | assumption | exact hR_.nd | (constructor <;> first | omega | (subst_vars; omega) | (simp_all; omega)))) ?_))
 rintro _ w15 ⟨lb16, g17, rfl, hIg17, hfg17, hfw15⟩; refine ⟨_, rfl, ?_⟩; have hW0 := hW; have hW := hW0.call hfw15; have hW := hW0.addFromAt hW hfg17 in_nil; clear hW0 hA ac; intro ac hA
 refine st_rdF (v := Value.func (.func 37) #[] lb16) hA (by kernel_rfl) (by kernel_rfl) (by kernel_rfl) (by kernel_rfl) hW.cls (Rd.pure fun _ => by kernel_rfl) ?_; clear hA ac; intro ac hA
 refine wpListIn_nil ?_
 refine thenN ?_
 refine wpIn_seq ?_
 refine wpIn_seq ?_
 refine wpIn_cut (fun ac_ wl_ => ∃ Aor3_13 : Option Addr, ∃ Aor3_15 : Option Addr, ∃ Aor3_21 : Option Addr, ∃ Aor3_23 : Option Addr, ∃ cor3_13 : Nat, ∃ cor3_15 : Nat, ∃ cor3_21 : Nat, ∃ cor3_23 : Nat, ∃ g0r3_13 : List Int, ∃ g0r3_15 : List Int, ∃ g0r3_21 : List Int, ∃ g0r3_23 : List Int, ∃ g1r3_21 : List Int, ((g0r3_13).length ≤ cor3_13) ∧ ((g0r3_15).length ≤ cor3_15) ∧ ((g1r3_21).length ≤ cor3_21) ∧ ((g0r3_23).length ≤ cor3_23) ∧ (g0r3_13.Perm (keys (vals V))) ∧ (g0r3_13.Pairwise fun x y => x ≤ y) ∧ (g0r3_15 = pagesM L) ∧ (g1r3_21 = gathOf pVec (vals V) g0r3_21) ∧ (g0r3_21.Perm (keys (vals V))) ∧ (g0r3_21.Pairwise fun x y => x ≤ y) ∧ (g0r3_23 = vecL L) ∧ Fm 82 [] [(0, Value.pointer (some ⟨m, 0, none⟩)), (1, Value.agg #[Value.slice A_L L.length c_L]), (3, Value.int .i64 many), (5, Value.pointer (some ⟨b1, 0, none⟩)), (7, Value.pointer (some ⟨b3, 0, none⟩)), (8, Value.pointer (some ⟨b5, 0, none⟩)), (9, Value.pointer (some ⟨b12, 0, none⟩)), (10, Value.func (.func 37) #[] lb16), (14, Value.agg #[Value.slice A_L L.length c_L]), (15, Value.slice Ao9 (g8).length co10), (16, Value.pointer (some ⟨m, 0, none⟩)), (17, Value.func (.func 37) #[] lb16), (44, Value.bool (!(decide (g1r3_21 = g0r3_23))))] ac_ ∧ Ws w No [rowR 35 1 enU4 (Value.slice Aor3_23 (g0r3_23).length cor3_23) g0r3_23, rowR 35 1 enU4 (Value.slice Aor3_21 (g1r3_21).length cor3_21) g1r3_21, rowR 35 1 enU4 (Value.slice Aor3_15 (g0r3_15).length cor3_15) g0r3_15, rowR 35 1 enU4 (Value.slice Aor3_13 (g0r3_13).length cor3_13) g0r3_13, Cel b12 #[Value.slice Ao9 (g8).length co10] 43, rowR 75 8 enCell22 (Value.slice Ao9 (g8).length co10) g8, Cel b5 #[Value.bool false] 4, Cel b3 #[Value.int .i64 many] 3, Cel b1 #[Value.slice A_L L.length c_L] 45] [g17, ShR m b V, roR A_L 8 enCell22 L] wl_) ?_ ?_
 · refine sr_regionF (m := 27) (C := Ws w No [Cel b12 #[Value.slice Ao9 (g8).length co10] 43, rowR 75 8 enCell22 (Value.slice Ao9 (g8).length co10) g8, Cel b5 #[Value.bool false] 4, Cel b3 #[Value.int .i64 many] 3, Cel b1 #[Value.slice A_L L.length c_L] 45] [g17, ShR m b V, roR A_L 8 enCell22 L]) (fun i => [6].contains i) (fun i => [5, 6].contains i) (fun i => [0, 1, 2, 3, 4, 7, 9, 10, 11, 12, 17, 18, 19, 20, 25, 26].contains i) (by kernel_rfl) (by kernel_rfl) (by kernel_rfl) (by kernel_rfl) (by kernel_rfl) (fun _ _ h => h) hW ?_; clear hW; intro w18 hW hfw18 hR; have hC : Ws w No [Cel b12 #[Value.slice Ao9 (g8).length co10] 43, rowR 75 8 enCell22 (Value.slice Ao9 (g8).length co10) g8, Cel b5 #[Value.bool false] 4, Cel b3 #[Value.int .i64 many] 3, Cel b1 #[Value.slice A_L L.length c_L] 45] [g17, ShR m b V, roR A_L 8 enCell22 L] w18 := hW.pick [0, 1, 2, 3, 4] (by decide) rfl
   refine sr_p 0 (Value.func (.func 37) #[] lb16) hR rfl hA ?_; clear hA ac; intro ac hA
   refine sr_p 1 (Value.bool false) hR rfl hA ?_; clear hA ac; intro ac hA
   refine sr_p 2 (Value.bool false) hR rfl hA ?_; clear hA ac; intro ac hA
   refine sr_p 3 (Value.pointer (some ⟨m, 0, none⟩)) hR rfl hA ?_; clear hA ac; intro ac hA
   refine sr_p 4 (Value.int .u32 addr) hR rfl hA ?_; clear hA ac; intro ac hA
   refine sr_t 6 (Value.agg #[Value.slice A_L L.length c_L]) hR rfl hA hC (Rd.load (b := b1) (i := 0) (by kernel_rfl) (fun _ hw => (hw).cel 4 rfl) (by kernel_rfl)) ?_; clear hA ac; intro ac hA
   refine sr_p 7 (Value.int .u32 addr) hR rfl hA ?_; clear hA ac; intro ac hA
   refine sr_one (i := 5) (by kernel_rfl) (sr_d rfl hA (Runs.callN (v := (atS V (addr)).v) (fun _ => by kernel_rfl) hW (e_sat m b V (addr) w18 ((hW).getG 1 rfl) ((hW).glt _ (List.mem_of_getElem? (i := 1) rfl)) (by first | omega | assumption | exact hR_.nd | (constructor <;> first | omega | (subst_vars; omega) | (simp_all; omega)))) ?_)); clear hA ac hW; intro w19 hW hfw19 ac hA
   refine ⟨⟨fun _ => (hW.pick [0, 1, 2, 3, 4] (by decide) rfl).pickG [0, 1, 2] rfl, fun h => absurd h (by decide)⟩, ?_⟩; have hC : Ws w No [Cel b12 #[Value.slice Ao9 (g8).length co10] 43, rowR 75 8 enCell22 (Value.slice Ao9 (g8).length co10) g8, Cel b5 #[Value.bool false] 4, Cel b3 #[Value.int .i64 many] 3, Cel b1 #[Value.slice A_L L.length c_L] 45] [g17, ShR m b V, roR A_L 8 enCell22 L] w19 := (hW.pick [0, 1, 2, 3, 4] (by decide) rfl).pickG [0, 1, 2] rfl
   refine sr_one (i := 8) (by kernel_rfl) (sr_d rfl hA (Runs.callN (v := (atL L (addr)).v) (fun _ => by kernel_rfl) hW (e_rat A_L c_L L (addr) w19 ((hW).getG 2 rfl) (by first | assumption | omega | (simp; omega) | simp) (by first | omega | assumption | exact hR_.nd | (constructor <;> first | omega | (subst_vars; omega) | (simp_all; omega)))) ?_)); clear hA ac hW; intro w20 hW hfw20 ac hA
   refine ⟨⟨fun h => absurd h (by decide), fun h => absurd h (by decide)⟩, ?_⟩
   refine sr_q 9 (Value.bool (!decide ((atS V (addr)) = (atL L (addr))))) hR rfl hA (Rd.neS (u := (atS V (addr)).v) (v := (atL L (addr)).v) (by kernel_rfl) (by kernel_rfl) rfl rfl (by kernel_rfl) (fun w => eq_Shade w (atS V (addr)) (atL L (addr)))) ?_; clear hA ac; intro ac hA
   refine sr_p 10 (Value.bool (!decide ((atS V (addr)) = (atL L (addr))))) hR rfl hA ?_; clear hA ac; intro ac hA
   refine sr_p 11 (Value.bool (!decide ((atS V (addr)) = (atL L (addr))))) hR rfl hA ?_; clear hA ac; intro ac hA
   rw [show (!decide ((atS V (addr)) = (atL L (addr)))) = false from (by rw [hR_.at_]; simp)] at hA
   refine sr_p 12 (Value.pointer (some ⟨m, 0, none⟩)) hR rfl hA ?_; clear hA ac; intro ac hA
   refine sr_two (i := 13) (j := 14) (by kernel_rfl) ?_ ?_
   · skip
     refine (sr_d rfl hA (Runs.call (fun _ => by kernel_rfl) (e_spages m b V w20 ((hW).getG 1 rfl) ((hW).glt _ (List.mem_of_getElem? (i := 1) rfl)) (by first | omega | assumption | exact hR_.nd | (constructor <;> first | omega | (subst_vars; omega) | (simp_all; omega))) (by first | omega | assumption | exact hR_.nd | (constructor <;> first | omega | (subst_vars; omega) | (simp_all; omega)))) ?_))
     rintro _ w21 ⟨g0r3_13, Aor3_13, cor3_13, rfl, hr3_13_hp, hr3_13_hs, hccor3_13, hu_⟩; refine ⟨_, rfl, ?_⟩; replace hW := hW.made hu_; clear hA ac; intro ac hA
     have hbp_ := congrArg List.length (hR_.pages hr3_13_hp hr3_13_hs)
     refine ⟨⟨fun h => absurd h (by decide), fun h => absurd h (by decide)⟩, ?_⟩
     refine sr_one (i := 14) (by kernel_rfl) (sr_d rfl hA (Runs.ofRd (v := Value.agg #[Value.slice A_L L.length c_L]) (C' := Ws w No [rowR 35 1 enU4 (Value.slice Aor3_13 (g0r3_13).length cor3_13) g0r3_13, Cel b12 #[Value.slice Ao9 (g8).length co10] 43, rowR 75 8 enCell22 (Value.slice Ao9 (g8).length co10) g8, Cel b5 #[Value.bool false] 4, Cel b3 #[Value.int .i64 many] 3, Cel b1 #[Value.slice A_L L.length c_L] 45] [g17, ShR m b V, roR A_L 8 enCell22 L]) hW (Rd.load (b := b1) (i := 0) (by kernel_rfl) (fun _ hw => (hw).cel 5 rfl) (by kernel_rfl)) ?_)); clear hA ac; intro  ac hA
     refine ⟨⟨fun h => absurd h (by decide), fun h => absurd h (by decide)⟩, ?_⟩
     refine sr_one (i := 15) (by kernel_rfl) (sr_d rfl hA (Runs.call (fun _ => by kernel_rfl) (e_rpages A_L c_L L w21 ((hW).getG 2 rfl) (by first | assumption | omega | (simp; omega) | simp) (by first | omega | assumption | exact hR_.nd | (constructor <;> first | omega | (subst_vars; omega) | (simp_all; omega))) (by first | omega | assumption | exact hR_.nd | (constructor <;> first | omega | (subst_vars; omega) | (simp_all; omega)))) ?_))
     rintro _ w22 ⟨g0r3_15, Aor3_15, cor3_15, rfl, hr3_15_hp, hccor3_15, hu_⟩; refine ⟨_, rfl, ?_⟩; replace hW := hW.made hu_; clear hA ac; intro ac hA
     refine ⟨⟨fun h => absurd h (by decide), fun h => absurd h (by decide)⟩, ?_⟩
     refine sr_one (i := 16) (by kernel_rfl) (sr_d rfl hA (Runs.callN (v := Value.bool (decide (g0r3_13 = g0r3_15))) (fun _ => by kernel_rfl) hW (e_rwords Aor3_13 cor3_13 g0r3_13 Aor3_15 cor3_15 g0r3_15 w22 (rowR_at ((hW).get 1 rfl) elt_U4.len) (own_cap ((hW).get 1 rfl)) (rowR_at ((hW).get 0 rfl) elt_U4.len) (own_cap ((hW).get 0 rfl)) (by first | omega | assumption | exact hR_.nd | (constructor <;> first | omega | (subst_vars; omega) | (simp_all; omega)))) ?_)); clear hA ac hW; intro w23 hW hfw23 ac hA
     refine ⟨⟨fun h => absurd h (by decide), fun h => absurd h (by decide)⟩, ?_⟩
     refine sr_p 17 (Value.bool (!(decide (g0r3_13 = g0r3_15)))) hR rfl hA ?_; clear hA ac; intro ac hA
     refine sr_p 18 (Value.bool (!(decide (g0r3_13 = g0r3_15)))) hR rfl hA ?_; clear hA ac; intro ac hA
     refine sr_p 19 (Value.bool (!(decide (g0r3_13 = g0r3_15)))) hR rfl hA ?_; clear hA ac; intro ac hA
     rw [show (!(decide (g0r3_13 = g0r3_15))) = false from (by rw [show decide (g0r3_13 = g0r3_15) = true from decide_eq_true ((hR_.pages hr3_13_hp hr3_13_hs).trans hr3_15_hp.symm)]; rfl)] at hA
     refine sr_p 20 (Value.pointer (some ⟨m, 0, none⟩)) hR rfl hA ?_; clear hA ac; intro ac hA
     refine sr_two (i := 21) (j := 22) (by kernel_rfl) ?_ ?_
     · skip
       refine (sr_d rfl hA (Runs.call (fun _ => by kernel_rfl) (e_svec m b V w23 ((hW).getG 1 rfl) ((hW).glt _ (List.mem_of_getElem? (i := 1) rfl)) (by first | omega | assumption | exact hR_.nd | (constructor <;> first | omega | (subst_vars; omega) | (simp_all; omega))) (by first | omega | assumption | exact hR_.nd | (constructor <;> first | omega | (subst_vars; omega) | (simp_all; omega)))) ?_))
       rintro _ w24 ⟨g0r3_21, g1r3_21, Aor3_21, cor3_21, rfl, hr3_21_hp, hr3_21_hs, hr3_21_hO, hccor3_21, hu_⟩; refine ⟨_, rfl, ?_⟩; replace hW := hW.made hu_; clear hA ac; intro ac hA
       have hbv_ : _ = (vecL L).length := congrArg List.length (hr3_21_hO.trans (hR_.vecs hr3_21_hp hr3_21_hs))
       refine ⟨⟨fun h => absurd h (by decide), fun h => absurd h (by decide)⟩, ?_⟩
       refine sr_one (i := 22) (by kernel_rfl) (sr_d rfl hA (Runs.ofRd (v := Value.agg #[Value.slice A_L L.length c_L]) (C' := Ws w No [rowR 35 1 enU4 (Value.slice Aor3_21 (g1r3_21).length cor3_21) g1r3_21, rowR 35 1 enU4 (Value.slice Aor3_15 (g0r3_15).length cor3_15) g0r3_15, rowR 35 1 enU4 (Value.slice Aor3_13 (g0r3_13).length cor3_13) g0r3_13, Cel b12 #[Value.slice Ao9 (g8).length co10] 43, rowR 75 8 enCell22 (Value.slice Ao9 (g8).length co10) g8, Cel b5 #[Value.bool false] 4, Cel b3 #[Value.int .i64 many] 3, Cel b1 #[Value.slice A_L L.length c_L] 45] [g17, ShR m b V, roR A_L 8 enCell22 L]) hW (Rd.load (b := b1) (i := 0) (by kernel_rfl) (fun _ hw => (hw).cel 7 rfl) (by kernel_rfl)) ?_)); clear hA ac; intro  ac hA
       refine ⟨⟨fun h => absurd h (by decide), fun h => absurd h (by decide)⟩, ?_⟩
       refine sr_one (i := 23) (by kernel_rfl) (sr_d rfl hA (Runs.call (fun _ => by kernel_rfl) (e_rvec A_L c_L L w24 ((hW).getG 2 rfl) (by first | assumption | omega | (simp; omega) | simp) (by first | omega | assumption | exact hR_.nd | (constructor <;> first | omega | (subst_vars; omega) | (simp_all; omega)))) ?_))
       rintro _ w25 ⟨g0r3_23, Aor3_23, cor3_23, rfl, hr3_23_hp, hccor3_23, hu_⟩; refine ⟨_, rfl, ?_⟩; replace hW := hW.made hu_; clear hA ac; intro ac hA
       refine ⟨⟨fun h => absurd h (by decide), fun h => absurd h (by decide)⟩, ?_⟩
       refine sr_one (i := 24) (by kernel_rfl) (sr_d rfl hA (Runs.callN (v := Value.bool (decide (g1r3_21 = g0r3_23))) (fun _ => by kernel_rfl) hW (e_rwords Aor3_21 cor3_21 g1r3_21 Aor3_23 cor3_23 g0r3_23 w25 (rowR_at ((hW).get 1 rfl) elt_U4.len) (own_cap ((hW).get 1 rfl)) (rowR_at ((hW).get 0 rfl) elt_U4.len) (own_cap ((hW).get 0 rfl)) (by first | omega | assumption | exact hR_.nd | (constructor <;> first | omega | (subst_vars; omega) | (simp_all; omega)))) ?_)); clear hA ac hW; intro w26 hW hfw26 ac hA
       refine ⟨⟨fun h => absurd h (by decide), fun h => absurd h (by decide)⟩, ?_⟩
       refine sr_p 25 (Value.bool (!(decide (g1r3_21 = g0r3_23)))) hR rfl hA ?_; clear hA ac; intro ac hA
       refine sr_p 26 (Value.bool (!(decide (g1r3_21 = g0r3_23)))) hR rfl hA ?_; clear hA ac; intro ac hA
       refine sr_done (by kernel_rfl) ?_ _
       exact ⟨Aor3_13, Aor3_15, Aor3_21, Aor3_23, cor3_13, cor3_15, cor3_21, cor3_23, g0r3_13, g0r3_15, g0r3_21, g0r3_23, g1r3_21, hccor3_13, hccor3_15, hccor3_21, hccor3_23, hr3_13_hp, hr3_13_hs, hr3_15_hp, hr3_21_hO, hr3_21_hp, hr3_21_hs, hr3_23_hp, hA.sub ⟨⟨by kernel_rfl, by kernel_rfl⟩, ⟨by kernel_rfl, by kernel_rfl⟩, ⟨by kernel_rfl, by kernel_rfl⟩, ⟨by kernel_rfl, by kernel_rfl⟩, ⟨by kernel_rfl, by kernel_rfl⟩, ⟨by kernel_rfl, by kernel_rfl⟩, ⟨by kernel_rfl, by kernel_rfl⟩, ⟨by kernel_rfl, by kernel_rfl⟩, ⟨by kernel_rfl, by kernel_rfl⟩, ⟨by kernel_rfl, by kernel_rfl⟩, ⟨by kernel_rfl, by kernel_rfl⟩, ⟨by kernel_rfl, by kernel_rfl⟩, ⟨by kernel_rfl, by kernel_rfl⟩, trivial⟩, (hW.pick [0, 1, 2, 3, 4, 5, 6, 7, 8] (by decide) rfl).pickG [0, 1, 2] rfl⟩
     · skip
       refine (sr_d rfl hA (Runs.ofRd (v := Value.agg #[Value.slice A_L L.length c_L]) (C' := Ws w No [rowR 35 1 enU4 (Value.slice Aor3_15 (g0r3_15).length cor3_15) g0r3_15, rowR 35 1 enU4 (Value.slice Aor3_13 (g0r3_13).length cor3_13) g0r3_13, Cel b12 #[Value.slice Ao9 (g8).length co10] 43, rowR 75 8 enCell22 (Value.slice Ao9 (g8).length co10) g8, Cel b5 #[Value.bool false] 4, Cel b3 #[Value.int .i64 many] 3, Cel b1 #[Value.slice A_L L.length c_L] 45] [g17, ShR m b V, roR A_L 8 enCell22 L]) hW (Rd.load (b := b1) (i := 0) (by kernel_rfl) (fun _ hw => (hw).cel 6 rfl) (by kernel_rfl)) ?_)); clear hA ac; intro  ac hA
       refine ⟨⟨fun h => absurd h (by decide), fun h => absurd h (by decide)⟩, ?_⟩
       refine sr_one (i := 21) (by kernel_rfl) (sr_d rfl hA (Runs.call (fun _ => by kernel_rfl) (e_svec m b V w23 ((hW).getG 1 rfl) ((hW).glt _ (List.mem_of_getElem? (i := 1) rfl)) (by first | omega | assumption | exact hR_.nd | (constructor <;> first | omega | (subst_vars; omega) | (simp_all; omega))) (by first | omega | assumption | exact hR_.nd | (constructor <;> first | omega | (subst_vars; omega) | (simp_all; omega)))) ?_))
       rintro _ w27 ⟨g0r3_21, g1r3_21, Aor3_21, cor3_21, rfl, hr3_21_hp, hr3_21_hs, hr3_21_hO, hccor3_21, hu_⟩; refine ⟨_, rfl, ?_⟩; replace hW := hW.made hu_; clear hA ac; intro ac hA
       have hbv_ : _ = (vecL L).length := congrArg List.length (hr3_21_hO.trans (hR_.vecs hr3_21_hp hr3_21_hs))
       refine ⟨⟨fun h => absurd h (by decide), fun h => absurd h (by decide)⟩, ?_⟩
       refine sr_one (i := 23) (by kernel_rfl) (sr_d rfl hA (Runs.call (fun _ => by kernel_rfl) (e_rvec A_L c_L L w27 ((hW).getG 2 rfl) (by first | assumption | omega | (simp; omega) | simp) (by first | omega | assumption | exact hR_.nd | (constructor <;> first | omega | (subst_vars; omega) | (simp_all; omega)))) ?_))
       rintro _ w28 ⟨g0r3_23, Aor3_23, cor3_23, rfl, hr3_23_hp, hccor3_23, hu_⟩; refine ⟨_, rfl, ?_⟩; replace hW := hW.made hu_; clear hA ac; intro ac hA
       refine ⟨⟨fun h => absurd h (by decide), fun h => absurd h (by decide)⟩, ?_⟩
       refine sr_one (i := 24) (by kernel_rfl) (sr_d rfl hA (Runs.callN (v := Value.bool (decide (g1r3_21 = g0r3_23))) (fun _ => by kernel_rfl) hW (e_rwords Aor3_21 cor3_21 g1r3_21 Aor3_23 cor3_23 g0r3_23 w28 (rowR_at ((hW).get 1 rfl) elt_U4.len) (own_cap ((hW).get 1 rfl)) (rowR_at ((hW).get 0 rfl) elt_U4.len) (own_cap ((hW).get 0 rfl)) (by first | omega | assumption | exact hR_.nd | (constructor <;> first | omega | (subst_vars; omega) | (simp_all; omega)))) ?_)); clear hA ac hW; intro w29 hW hfw29 ac hA
       refine ⟨⟨fun h => absurd h (by decide), fun h => absurd h (by decide)⟩, ?_⟩
       refine sr_p 25 (Value.bool (!(decide (g1r3_21 = g0r3_23)))) hR rfl hA ?_; clear hA ac; intro ac hA
       refine sr_p 26 (Value.bool (!(decide (g1r3_21 = g0r3_23)))) hR rfl hA ?_; clear hA ac; intro ac hA
       refine sr_done (by kernel_rfl) ?_ _
       exact ⟨Aor3_13, Aor3_15, Aor3_21, Aor3_23, cor3_13, cor3_15, cor3_21, cor3_23, g0r3_13, g0r3_15, g0r3_21, g0r3_23, g1r3_21, hccor3_13, hccor3_15, hccor3_21, hccor3_23, hr3_13_hp, hr3_13_hs, hr3_15_hp, hr3_21_hO, hr3_21_hp, hr3_21_hs, hr3_23_hp, hA.sub ⟨⟨by kernel_rfl, by kernel_rfl⟩, ⟨by kernel_rfl, by kernel_rfl⟩, ⟨by kernel_rfl, by kernel_rfl⟩, ⟨by kernel_rfl, by kernel_rfl⟩, ⟨by kernel_rfl, by kernel_rfl⟩, ⟨by kernel_rfl, by kernel_rfl⟩, ⟨by kernel_rfl, by kernel_rfl⟩, ⟨by kernel_rfl, by kernel_rfl⟩, ⟨by kernel_rfl, by kernel_rfl⟩, ⟨by kernel_rfl, by kernel_rfl⟩, ⟨by kernel_rfl, by kernel_rfl⟩, ⟨by kernel_rfl, by kernel_rfl⟩, ⟨by kernel_rfl, by kernel_rfl⟩, trivial⟩, (hW.pick [0, 1, 2, 3, 4, 5, 6, 7, 8] (by decide) rfl).pickG [0, 1, 2] rfl⟩
   · skip
     refine (sr_d rfl hA (Runs.ofRd (v := Value.agg #[Value.slice A_L L.length c_L]) (C' := Ws w No [Cel b12 #[Value.slice Ao9 (g8).length co10] 43, rowR 75 8 enCell22 (Value.slice Ao9 (g8).length co10) g8, Cel b5 #[Value.bool false] 4, Cel b3 #[Value.int .i64 many] 3, Cel b1 #[Value.slice A_L L.length c_L] 45] [g17, ShR m b V, roR A_L 8 enCell22 L]) hW (Rd.load (b := b1) (i := 0) (by kernel_rfl) (fun _ hw => (hw).cel 4 rfl) (by kernel_rfl)) ?_)); clear hA ac; intro  ac hA
     refine ⟨⟨fun h => absurd h (by decide), fun h => absurd h (by decide)⟩, ?_⟩
     refine sr_one (i := 13) (by kernel_rfl) (sr_d rfl hA (Runs.call (fun _ => by kernel_rfl) (e_spages m b V w20 ((hW).getG 1 rfl) ((hW).glt _ (List.mem_of_getElem? (i := 1) rfl)) (by first | omega | assumption | exact hR_.nd | (constructor <;> first | omega | (subst_vars; omega) | (simp_all; omega))) (by first | omega | assumption | exact hR_.nd | (constructor <;> first | omega | (subst_vars; omega) | (simp_all; omega)))) ?_))
     rintro _ w30 ⟨g0r3_13, Aor3_13, cor3_13, rfl, hr3_13_hp, hr3_13_hs, hccor3_13, hu_⟩; refine ⟨_, rfl, ?_⟩; replace hW := hW.made hu_; clear hA ac; intro ac hA
     have hbp_ := congrArg List.length (hR_.pages hr3_13_hp hr3_13_hs)
     refine ⟨⟨fun h => absurd h (by decide), fun h => absurd h (by decide)⟩, ?_⟩
     refine sr_one (i := 15) (by kernel_rfl) (sr_d rfl hA (Runs.call (fun _ => by kernel_rfl) (e_rpages A_L c_L L w30 ((hW).getG 2 rfl) (by first | assumption | omega | (simp; omega) | simp) (by first | omega | assumption | exact hR_.nd | (constructor <;> first | omega | (subst_vars; omega) | (simp_all; omega))) (by first | omega | assumption | exact hR_.nd | (constructor <;> first | omega | (subst_vars; omega) | (simp_all; omega)))) ?_))
     rintro _ w31 ⟨g0r3_15, Aor3_15, cor3_15, rfl, hr3_15_hp, hccor3_15, hu_⟩; refine ⟨_, rfl, ?_⟩; replace hW := hW.made hu_; clear hA ac; intro ac hA
     refine ⟨⟨fun h => absurd h (by decide), fun h => absurd h (by decide)⟩, ?_⟩
     refine sr_one (i := 16) (by kernel_rfl) (sr_d rfl hA (Runs.callN (v := Value.bool (decide (g0r3_13 = g0r3_15))) (fun _ => by kernel_rfl) hW (e_rwords Aor3_13 cor3_13 g0r3_13 Aor3_15 cor3_15 g0r3_15 w31 (rowR_at ((hW).get 1 rfl) elt_U4.len) (own_cap ((hW).get 1 rfl)) (rowR_at ((hW).get 0 rfl) elt_U4.len) (own_cap ((hW).get 0 rfl)) (by first | omega | assumption | exact hR_.nd | (constructor <;> first | omega | (subst_vars; omega) | (simp_all; omega)))) ?_)); clear hA ac hW; intro w32 hW hfw32 ac hA
     refine ⟨⟨fun h => absurd h (by decide), fun h => absurd h (by decide)⟩, ?_⟩
     refine sr_p 17 (Value.bool (!(decide (g0r3_13 = g0r3_15)))) hR rfl hA ?_; clear hA ac; intro ac hA
     refine sr_p 18 (Value.bool (!(decide (g0r3_13 = g0r3_15)))) hR rfl hA ?_; clear hA ac; intro ac hA
     refine sr_p 19 (Value.bool (!(decide (g0r3_13 = g0r3_15)))) hR rfl hA ?_; clear hA ac; intro ac hA
     rw [show (!(decide (g0r3_13 = g0r3_15))) = false from (by rw [show decide (g0r3_13 = g0r3_15) = true from decide_eq_true ((hR_.pages hr3_13_hp hr3_13_hs).trans hr3_15_hp.symm)]; rfl)] at hA
     refine sr_p 20 (Value.pointer (some ⟨m, 0, none⟩)) hR rfl hA ?_; clear hA ac; intro ac hA
     refine sr_two (i := 21) (j := 22) (by kernel_rfl) ?_ ?_
     · skip
       refine (sr_d rfl hA (Runs.call (fun _ => by kernel_rfl) (e_svec m b V w32 ((hW).getG 1 rfl) ((hW).glt _ (List.mem_of_getElem? (i := 1) rfl)) (by first | omega | assumption | exact hR_.nd | (constructor <;> first | omega | (subst_vars; omega) | (simp_all; omega))) (by first | omega | assumption | exact hR_.nd | (constructor <;> first | omega | (subst_vars; omega) | (simp_all; omega)))) ?_))
       rintro _ w33 ⟨g0r3_21, g1r3_21, Aor3_21, cor3_21, rfl, hr3_21_hp, hr3_21_hs, hr3_21_hO, hccor3_21, hu_⟩; refine ⟨_, rfl, ?_⟩; replace hW := hW.made hu_; clear hA ac; intro ac hA
       have hbv_ : _ = (vecL L).length := congrArg List.length (hr3_21_hO.trans (hR_.vecs hr3_21_hp hr3_21_hs))
       refine ⟨⟨fun h => absurd h (by decide), fun h => absurd h (by decide)⟩, ?_⟩
       refine sr_one (i := 22) (by kernel_rfl) (sr_d rfl hA (Runs.ofRd (v := Value.agg #[Value.slice A_L L.length c_L]) (C' := Ws w No [rowR 35 1 enU4 (Value.slice Aor3_21 (g1r3_21).length cor3_21) g1r3_21, rowR 35 1 enU4 (Value.slice Aor3_15 (g0r3_15).length cor3_15) g0r3_15, rowR 35 1 enU4 (Value.slice Aor3_13 (g0r3_13).length cor3_13) g0r3_13, Cel b12 #[Value.slice Ao9 (g8).length co10] 43, rowR 75 8 enCell22 (Value.slice Ao9 (g8).length co10) g8, Cel b5 #[Value.bool false] 4, Cel b3 #[Value.int .i64 many] 3, Cel b1 #[Value.slice A_L L.length c_L] 45] [g17, ShR m b V, roR A_L 8 enCell22 L]) hW (Rd.load (b := b1) (i := 0) (by kernel_rfl) (fun _ hw => (hw).cel 7 rfl) (by kernel_rfl)) ?_)); clear hA ac; intro  ac hA
       refine ⟨⟨fun h => absurd h (by decide), fun h => absurd h (by decide)⟩, ?_⟩
       refine sr_one (i := 23) (by kernel_rfl) (sr_d rfl hA (Runs.call (fun _ => by kernel_rfl) (e_rvec A_L c_L L w33 ((hW).getG 2 rfl) (by first | assumption | omega | (simp; omega) | simp) (by first | omega | assumption | exact hR_.nd | (constructor <;> first | omega | (subst_vars; omega) | (simp_all; omega)))) ?_))
       rintro _ w34 ⟨g0r3_23, Aor3_23, cor3_23, rfl, hr3_23_hp, hccor3_23, hu_⟩; refine ⟨_, rfl, ?_⟩; replace hW := hW.made hu_; clear hA ac; intro ac hA
       refine ⟨⟨fun h => absurd h (by decide), fun h => absurd h (by decide)⟩, ?_⟩
       refine sr_one (i := 24) (by kernel_rfl) (sr_d rfl hA (Runs.callN (v := Value.bool (decide (g1r3_21 = g0r3_23))) (fun _ => by kernel_rfl) hW (e_rwords Aor3_21 cor3_21 g1r3_21 Aor3_23 cor3_23 g0r3_23 w34 (rowR_at ((hW).get 1 rfl) elt_U4.len) (own_cap ((hW).get 1 rfl)) (rowR_at ((hW).get 0 rfl) elt_U4.len) (own_cap ((hW).get 0 rfl)) (by first | omega | assumption | exact hR_.nd | (constructor <;> first | omega | (subst_vars; omega) | (simp_all; omega)))) ?_)); clear hA ac hW; intro w35 hW hfw35 ac hA
       refine ⟨⟨fun h => absurd h (by decide), fun h => absurd h (by decide)⟩, ?_⟩
       refine sr_p 25 (Value.bool (!(decide (g1r3_21 = g0r3_23)))) hR rfl hA ?_; clear hA ac; intro ac hA
       refine sr_p 26 (Value.bool (!(decide (g1r3_21 = g0r3_23)))) hR rfl hA ?_; clear hA ac; intro ac hA
       refine sr_done (by kernel_rfl) ?_ _
       exact ⟨Aor3_13, Aor3_15, Aor3_21, Aor3_23, cor3_13, cor3_15, cor3_21, cor3_23, g0r3_13, g0r3_15, g0r3_21, g0r3_23, g1r3_21, hccor3_13, hccor3_15, hccor3_21, hccor3_23, hr3_13_hp, hr3_13_hs, hr3_15_hp, hr3_21_hO, hr3_21_hp, hr3_21_hs, hr3_23_hp, hA.sub ⟨⟨by kernel_rfl, by kernel_rfl⟩, ⟨by kernel_rfl, by kernel_rfl⟩, ⟨by kernel_rfl, by kernel_rfl⟩, ⟨by kernel_rfl, by kernel_rfl⟩, ⟨by kernel_rfl, by kernel_rfl⟩, ⟨by kernel_rfl, by kernel_rfl⟩, ⟨by kernel_rfl, by kernel_rfl⟩, ⟨by kernel_rfl, by kernel_rfl⟩, ⟨by kernel_rfl, by kernel_rfl⟩, ⟨by kernel_rfl, by kernel_rfl⟩, ⟨by kernel_rfl, by kernel_rfl⟩, ⟨by kernel_rfl, by kernel_rfl⟩, ⟨by kernel_rfl, by kernel_rfl⟩, trivial⟩, (hW.pick [0, 1, 2, 3, 4, 5, 6, 7, 8] (by decide) rfl).pickG [0, 1, 2] rfl⟩
     · skip
       refine (sr_d rfl hA (Runs.ofRd (v := Value.agg #[Value.slice A_L L.length c_L]) (C' := Ws w No [rowR 35 1 enU4 (Value.slice Aor3_15 (g0r3_15).length cor3_15) g0r3_15, rowR 35 1 enU4 (Value.slice Aor3_13 (g0r3_13).length cor3_13) g0r3_13, Cel b12 #[Value.slice Ao9 (g8).length co10] 43, rowR 75 8 enCell22 (Value.slice Ao9 (g8).length co10) g8, Cel b5 #[Value.bool false] 4, Cel b3 #[Value.int .i64 many] 3, Cel b1 #[Value.slice A_L L.length c_L] 45] [g17, ShR m b V, roR A_L 8 enCell22 L]) hW (Rd.load (b := b1) (i := 0) (by kernel_rfl) (fun _ hw => (hw).cel 6 rfl) (by kernel_rfl)) ?_)); clear hA ac; intro  ac hA
       refine ⟨⟨fun h => absurd h (by decide), fun h => absurd h (by decide)⟩, ?_⟩
       refine sr_one (i := 21) (by kernel_rfl) (sr_d rfl hA (Runs.call (fun _ => by kernel_rfl) (e_svec m b V w32 ((hW).getG 1 rfl) ((hW).glt _ (List.mem_of_getElem? (i := 1) rfl)) (by first | omega | assumption | exact hR_.nd | (constructor <;> first | omega | (subst_vars; omega) | (simp_all; omega))) (by first | omega | assumption | exact hR_.nd | (constructor <;> first | omega | (subst_vars; omega) | (simp_all; omega)))) ?_))
       rintro _ w36 ⟨g0r3_21, g1r3_21, Aor3_21, cor3_21, rfl, hr3_21_hp, hr3_21_hs, hr3_21_hO, hccor3_21, hu_⟩; refine ⟨_, rfl, ?_⟩; replace hW := hW.made hu_; clear hA ac; intro ac hA
       have hbv_ : _ = (vecL L).length := congrArg List.length (hr3_21_hO.trans (hR_.vecs hr3_21_hp hr3_21_hs))
       refine ⟨⟨fun h => absurd h (by decide), fun h => absurd h (by decide)⟩, ?_⟩
       refine sr_one (i := 23) (by kernel_rfl) (sr_d rfl hA (Runs.call (fun _ => by kernel_rfl) (e_rvec A_L c_L L w36 ((hW).getG 2 rfl) (by first | assumption | omega | (simp; omega) | simp) (by first | omega | assumption | exact hR_.nd | (constructor <;> first | omega | (subst_vars; omega) | (simp_all; omega)))) ?_))
       rintro _ w37 ⟨g0r3_23, Aor3_23, cor3_23, rfl, hr3_23_hp, hccor3_23, hu_⟩; refine ⟨_, rfl, ?_⟩; replace hW := hW.made hu_; clear hA ac; intro ac hA
       refine ⟨⟨fun h => absurd h (by decide), fun h => absurd h (by decide)⟩, ?_⟩
       refine sr_one (i := 24) (by kernel_rfl) (sr_d rfl hA (Runs.callN (v := Value.bool (decide (g1r3_21 = g0r3_23))) (fun _ => by kernel_rfl) hW (e_rwords Aor3_21 cor3_21 g1r3_21 Aor3_23 cor3_23 g0r3_23 w37 (rowR_at ((hW).get 1 rfl) elt_U4.len) (own_cap ((hW).get 1 rfl)) (rowR_at ((hW).get 0 rfl) elt_U4.len) (own_cap ((hW).get 0 rfl)) (by first | omega | assumption | exact hR_.nd | (constructor <;> first | omega | (subst_vars; omega) | (simp_all; omega)))) ?_)); clear hA ac hW; intro w38 hW hfw38 ac hA
       refine ⟨⟨fun h => absurd h (by decide), fun h => absurd h (by decide)⟩, ?_⟩
       refine sr_p 25 (Value.bool (!(decide (g1r3_21 = g0r3_23)))) hR rfl hA ?_; clear hA ac; intro ac hA
       refine sr_p 26 (Value.bool (!(decide (g1r3_21 = g0r3_23)))) hR rfl hA ?_; clear hA ac; intro ac hA
       refine sr_done (by kernel_rfl) ?_ _
       exact ⟨Aor3_13, Aor3_15, Aor3_21, Aor3_23, cor3_13, cor3_15, cor3_21, cor3_23, g0r3_13, g0r3_15, g0r3_21, g0r3_23, g1r3_21, hccor3_13, hccor3_15, hccor3_21, hccor3_23, hr3_13_hp, hr3_13_hs, hr3_15_hp, hr3_21_hO, hr3_21_hp, hr3_21_hs, hr3_23_hp, hA.sub ⟨⟨by kernel_rfl, by kernel_rfl⟩, ⟨by kernel_rfl, by kernel_rfl⟩, ⟨by kernel_rfl, by kernel_rfl⟩, ⟨by kernel_rfl, by kernel_rfl⟩, ⟨by kernel_rfl, by kernel_rfl⟩, ⟨by kernel_rfl, by kernel_rfl⟩, ⟨by kernel_rfl, by kernel_rfl⟩, ⟨by kernel_rfl, by kernel_rfl⟩, ⟨by kernel_rfl, by kernel_rfl⟩, ⟨by kernel_rfl, by kernel_rfl⟩, ⟨by kernel_rfl, by kernel_rfl⟩, ⟨by kernel_rfl, by kernel_rfl⟩, ⟨by kernel_rfl, by kernel_rfl⟩, trivial⟩, (hW.pick [0, 1, 2, 3, 4, 5, 6, 7, 8] (by decide) rfl).pickG [0, 1, 2] rfl⟩
 clear hA ac hW; rintro ac w39 ⟨Aor3_13, Aor3_15, Aor3_21, Aor3_23, cor3_13, cor3_15, cor3_21, cor3_23, g0r3_13, g0r3_15, g0r3_21, g0r3_23, g1r3_21, hccor3_13, hccor3_15, hccor3_21, hccor3_23, hr3_13_hp, hr3_13_hs, hr3_15_hp, hr3_21_hO, hr3_21_hp, hr3_21_hs, hr3_23_hp, hA, hW⟩
 refine thenN ?_
 refine wpIn_cond_split (t := !(decide (g1r3_21 = g0r3_23))) (hA.eval (by kernel_rfl)) (fun h40 => ?_) (fun h40 => ?_)
 · skip
   have h40 := not_t h40
   have h40 := of_decide_eq_false h40
   first
   | (exfalso; clear hA hW; omega)
   | (exfalso; clear hA hW; exact absurd (hr3_21_hO.trans ((hR_.vecs hr3_21_hp hr3_21_hs).trans hr3_23_hp.symm)) h40; done)
   | (
     refine wpIn_seq ?_
     refine wpIn_region_lit ?_
     refine stF hA (by kernel_rfl) (by kernel_rfl) (by kernel_rfl) (by kernel_rfl) (RunsF.of (Runs.store (v := Value.bool false) (b := b5) (j := 0) (n := 1) (cs' := #[Value.bool false]) (H' := [rowR 35 1 enU4 (Value.slice Aor3_23 (g0r3_23).length cor3_23) g0r3_23, rowR 35 1 enU4 (Value.slice Aor3_21 (g1r3_21).length cor3_21) g1r3_21, rowR 35 1 enU4 (Value.slice Aor3_15 (g0r3_15).length cor3_15) g0r3_15, rowR 35 1 enU4 (Value.slice Aor3_13 (g0r3_13).length cor3_13) g0r3_13, Cel b12 #[Value.slice Ao9 (g8).length co10] 43, rowR 75 8 enCell22 (Value.slice Ao9 (g8).length co10) g8, Cel b5 #[Value.bool false] 4, Cel b3 #[Value.int .i64 many] 3, Cel b1 #[Value.slice A_L L.length c_L] 45]) (by kernel_rfl) (by kernel_rfl) (by kernel_rfl) (by kernel_rfl) (by kernel_rfl) hW 6 (by rfl) (Nat.le_of_ble_eq_true (by kernel_rfl)) (by kernel_rfl) (by rfl) ?_)); clear hA ac hW; intro w41 hW ac hA
     refine wpListIn_nil ?_
     refine thenN ?_
     refine wpIn_ret ?_
     refine thenR ?_
     refine retF (.inl rfl) hA ?_
     refine leave1 (v := Value.bool false) (by rfl) (GotF.cell (b := b5) (i := 0) hA (by kernel_rfl) (by kernel_rfl) (hW.cel 6 rfl) (by kernel_rfl)) ?_
     clear hA
     exact ⟨retv (by (refine congrArg Value.bool (beq_iff_eq.2 ?_); omega)), hW.fr⟩)
 · skip
   have h40 := not_f h40
   have h40 := of_decide_eq_true h40
   first
   | (exfalso; clear hA hW; omega)
   | (exfalso; clear hA hW; exact absurd (hr3_21_hO.trans ((hR_.vecs hr3_21_hp hr3_21_hs).trans hr3_23_hp.symm)) h40; done)
   | (
     refine wpIn_skip ?_
     refine thenN ?_
     refine wpIn_seq ?_
     refine wpIn_region_lit ?_
     refine stF hA (by kernel_rfl) (by kernel_rfl) (by kernel_rfl) (by kernel_rfl) (RunsF.of (Runs.cells (fun b => Value.pointer (some ⟨b, 0, none⟩)) #[Value.int .i64 0] 3 (fun _ => by kernel_rfl) hW ?_)); clear hA ac hW; intro b42 w43 hW hb42 hfw43 ac hA
     refine stF hA (by kernel_rfl) (by kernel_rfl) (by kernel_rfl) (by kernel_rfl) (RunsF.of (Runs.store (v := Value.int .i64 0) (b := b42) (j := 0) (n := 1) (cs' := #[Value.int .i64 0]) (H' := [Cel b42 #[Value.int .i64 0] 3, rowR 35 1 enU4 (Value.slice Aor3_23 (g0r3_23).length cor3_23) g0r3_23, rowR 35 1 enU4 (Value.slice Aor3_21 (g1r3_21).length cor3_21) g1r3_21, rowR 35 1 enU4 (Value.slice Aor3_15 (g0r3_15).length cor3_15) g0r3_15, rowR 35 1 enU4 (Value.slice Aor3_13 (g0r3_13).length cor3_13) g0r3_13, Cel b12 #[Value.slice Ao9 (g8).length co10] 43, rowR 75 8 enCell22 (Value.slice Ao9 (g8).length co10) g8, Cel b5 #[Value.bool false] 4, Cel b3 #[Value.int .i64 many] 3, Cel b1 #[Value.slice A_L L.length c_L] 45]) (by kernel_rfl) (by kernel_rfl) (by kernel_rfl) (by kernel_rfl) (by kernel_rfl) hW 0 (by rfl) (Nat.le_of_ble_eq_true (by kernel_rfl)) (by kernel_rfl) (by rfl) ?_)); clear hA ac hW; intro w44 hW ac hA
     refine wpListIn_nil ?_
     refine thenN ?_
     refine wpIn_seq ?_
     refine wpIn_seq ?_
     refine wpIn_region_lit ?_
     refine st_rdF (v := Value.func (.func 37) #[] lb16) hA (by kernel_rfl) (by kernel_rfl) (by kernel_rfl) (by kernel_rfl) hW.cls (Rd.pure fun _ => by kernel_rfl) ?_; clear hA ac; intro ac hA
     refine wpListIn_nil ?_
     refine thenN ?_
     refine wpIn_block ?_
     refine wp_range (encs := (fun x_ : Cell22 => #[Value.int .u32 x_.addr, x_.x.v])) (Sx := (fun l_ : List Cell22 => ∃ ks : List Int, ks.Perm (keys (vals V)) ∧ (ks.Pairwise fun x y => x ≤ y) ∧ l_ = gathOf pAll (vals V) ks)) hA (by kernel_rfl) (by kernel_rfl) (enters_of Try.func37 (by kernel_rfl) rfl) (by kernel_rfl) (fun _ => rfl) hIg17 (List.forall_mem_singleton.2 (List.mem_of_getElem? (i := 0) rfl)) (fun pre_ H_ => ∃ n : Int, True ∧ (n = (pre_.length : Nat)) ∧ (n = 0 ∨ n < many) ∧ H_ = [Cel b42 #[Value.int .i64 n] 3, Cel b12 #[Value.slice Ao9 (g8).length co10] 43, Cel b3 #[Value.int .i64 many] 3, rowR 75 8 enCell22 (Value.slice Ao9 (g8).length co10) g8]) (fun c_ _ H_ => (c_ = .exit 0 ∧ ∃ n : Int, (n ≤ g8.length ∧ n ≥ many ∧ 1 ≤ n ∧ (n = 1 ∨ n ≤ many)) ∧ H_ = [Cel b42 #[Value.int .i64 n] 3, Cel b12 #[Value.slice Ao9 (g8).length co10] 43, Cel b3 #[Value.int .i64 many] 3, rowR 75 8 enCell22 (Value.slice Ao9 (g8).length co10) g8])) (H := [Cel b42 #[Value.int .i64 0] 3, Cel b12 #[Value.slice Ao9 (g8).length co10] 43, Cel b3 #[Value.int .i64 many] 3, rowR 75 8 enCell22 (Value.slice Ao9 (g8).length co10) g8]) (K := [rowR 35 1 enU4 (Value.slice Aor3_23 (g0r3_23).length cor3_23) g0r3_23, rowR 35 1 enU4 (Value.slice Aor3_21 (g1r3_21).length cor3_21) g1r3_21, rowR 35 1 enU4 (Value.slice Aor3_15 (g0r3_15).length cor3_15) g0r3_15, rowR 35 1 enU4 (Value.slice Aor3_13 (g0r3_13).length cor3_13) g0r3_13, Cel b5 #[Value.bool false] 4, Cel b1 #[Value.slice A_L L.length c_L] 45]) (hW.pick [0, 5, 8, 6, 1, 2, 3, 4, 7, 9] (by decide) rfl) ⟨0, trivial, by rfl, by omega, rfl⟩ ?_ ?_ ?_
     · skip
       clear hA ac hW; intro l_45 rd_45 bs_45 pre_ x_ Hk_ w46 T_45 ac hrd_45 hbs_45 hbr_45 hok_ hJ_ hA hW hB_45 hT_45
       obtain ⟨n, _, hn, hm, rfl⟩ := hJ_
       obtain ⟨y47, h_⟩ : ∃ y_, y_ = x_ := ⟨_, rfl⟩; subst h_
       replace hA : Fm 82 [] [(0, Value.pointer (some ⟨m, 0, none⟩)), (1, Value.agg #[Value.slice A_L L.length c_L]), (3, Value.int .i64 many), (5, Value.pointer (some ⟨b1, 0, none⟩)), (7, Value.pointer (some ⟨b3, 0, none⟩)), (8, Value.pointer (some ⟨b5, 0, none⟩)), (9, Value.pointer (some ⟨b12, 0, none⟩)), (10, Value.func (.func 37) #[] lb16), (11, Value.pointer (some ⟨b42, 0, none⟩)), (14, Value.agg #[Value.slice A_L L.length c_L]), (15, Value.slice Ao9 (g8).length co10), (16, Value.pointer (some ⟨m, 0, none⟩)), (17, Value.func (.func 37) #[] lb16), (44, Value.bool (!(decide (g1r3_21 = g0r3_23)))), (45, Value.func (.func 37) #[] lb16), (46, Value.int .u32 y47.addr), (47, y47.x.v)] ac := hA.sub ⟨⟨by kernel_rfl, by kernel_rfl⟩, ⟨by kernel_rfl, by kernel_rfl⟩, ⟨by kernel_rfl, by kernel_rfl⟩, ⟨by kernel_rfl, by kernel_rfl⟩, ⟨by kernel_rfl, by kernel_rfl⟩, ⟨by kernel_rfl, by kernel_rfl⟩, ⟨by kernel_rfl, by kernel_rfl⟩, ⟨by kernel_rfl, by kernel_rfl⟩, ⟨by kernel_rfl, by kernel_rfl⟩, ⟨by kernel_rfl, by kernel_rfl⟩, ⟨by kernel_rfl, by kernel_rfl⟩, ⟨by kernel_rfl, by kernel_rfl⟩, ⟨by kernel_rfl, by kernel_rfl⟩, ⟨by kernel_rfl, by kernel_rfl⟩, ⟨by kernel_rfl, by kernel_rfl⟩, ⟨by kernel_rfl, by kernel_rfl⟩, ⟨by kernel_rfl, by kernel_rfl⟩, trivial⟩
       have he_ := hR_.comes hok_; rw [← hw7_hp] at he_; have hlt_ := (List.getElem?_eq_some_iff.1 he_).1; have hll_ : g8.length ≤ L.length := by rw [hw7_hp]; exact allL_len _
       refine wpIn_seq ?_
       refine wpIn_region_lit ?_
       refine st_rdF (v := Value.int .u32 y47.addr) hA (by kernel_rfl) (by kernel_rfl) (by kernel_rfl) (by kernel_rfl) hW.cls (Rd.pure fun _ => by kernel_rfl) ?_; clear hA ac; intro ac hA
       refine wpListIn_nil ?_
       refine thenN ?_
       refine wpIn_region_lit ?_
       refine stF hA (by kernel_rfl) (by kernel_rfl) (by kernel_rfl) (by kernel_rfl) (RunsF.of (Runs.cells (fun b => Value.pointer (some ⟨b, 0, none⟩)) #[Value.int .u64 0, Value.int .i64 0, Value.int .i64 0, Value.int .u64 0, Value.int .i64 0, Value.int .i64 0, Value.int .i64 0] 31 (fun _ => by kernel_rfl) hW ?_)); clear hA ac hW; intro b48 w49 hW hb48 hfw49 ac hA
       refine stF hA (by kernel_rfl) (by kernel_rfl) (by kernel_rfl) (by kernel_rfl) (RunsF.of (Runs.store (v := y47.x.v) (b := b48) (j := 0) (n := 7) (cs' := #[Value.int .u64 y47.x.wr, Value.int .i64 y47.x.ws.f, Value.int .i64 y47.x.ws.pc, Value.int .u64 y47.x.rd, Value.int .i64 y47.x.rs.f, Value.int .i64 y47.x.rs.pc, Value.int .i64 y47.x.vec]) (H' := [Cel b48 #[Value.int .u64 y47.x.wr, Value.int .i64 y47.x.ws.f, Value.int .i64 y47.x.ws.pc, Value.int .u64 y47.x.rd, Value.int .i64 y47.x.rs.f, Value.int .i64 y47.x.rs.pc, Value.int .i64 y47.x.vec] 31, rd_45, Cel b42 #[Value.int .i64 n] 3, Cel b12 #[Value.slice Ao9 (g8).length co10] 43, Cel b3 #[Value.int .i64 many] 3, rowR 75 8 enCell22 (Value.slice Ao9 (g8).length co10) g8]) (by kernel_rfl) (by kernel_rfl) (by kernel_rfl) (by kernel_rfl) (by kernel_rfl) hW 0 (by rfl) (Nat.le_of_ble_eq_true (by kernel_rfl)) (by kernel_rfl) (by rfl) ?_)); clear hA ac hW; intro w50 hW ac hA
       refine wpListIn_nil ?_
       refine thenN ?_
       refine begun (bs := bs_45) (H' := [Cel b48 #[Value.int .u64 y47.x.wr, Value.int .i64 y47.x.ws.f, Value.int .i64 y47.x.ws.pc, Value.int .u64 y47.x.rd, Value.int .i64 y47.x.rs.f, Value.int .i64 y47.x.rs.pc, Value.int .i64 y47.x.vec] 31, bs_45, Cel b42 #[Value.int .i64 n] 3, Cel b12 #[Value.slice Ao9 (g8).length co10] 43, Cel b3 #[Value.int .i64 many] 3, rowR 75 8 enCell22 (Value.slice Ao9 (g8).length co10) g8]) hW 1 rfl (fun b hb => by rw [hbs_45] at hb; rw [hrd_45]; exact hb) rfl ?_; clear hW; intro w51 hW
       refine wpIn_block ?_
       refine wpIn_seq ?_
       refine wpIn_seq ?_
       refine q_regionF (by kernel_rfl) (by kernel_rfl) (by kernel_rfl) hW ?_
       refine sq_q (Value.int .i64 n) hA (Rd.load (b := b42) (i := 0) (by kernel_rfl) (fun _ hw => (hw.1).cel 2 rfl) (by kernel_rfl)) ?_; clear hA ac; intro ac hA
       refine sq_q (Value.slice Ao9 (g8).length co10) hA (Rd.load (b := b12) (i := 0) (by kernel_rfl) (fun _ hw => (hw.1).cel 3 rfl) (by kernel_rfl)) ?_; clear hA ac; intro ac hA
       refine sq_p (Value.int .i64 (((g8).length : Nat) : Int)) hA ?_; clear hA ac; intro ac hA
       refine sq_p (Value.bool (decide ((n : Int) ≥ ((((g8).length : Nat) : Int) : Int)))) hA ?_; clear hA ac; intro ac hA
       refine sq_p (Value.bool (decide ((n : Int) ≥ ((((g8).length : Nat) : Int) : Int)))) hA ?_; clear hA ac; intro ac hA
       rcases Bool.eq_false_or_eq_true (decide ((n : Int) ≥ ((((g8).length : Nat) : Int) : Int))) with h52 | h52
       · skip
         rw [h52] at hA
         have h52 := of_decide_eq_true h52
         first
         | (exfalso; clear hA hW; omega)
         | (
           fail)
       · skip
         rw [h52] at hA
         have h52 := of_decide_eq_false h52
         first
         | (exfalso; clear hA hW; omega)
         | (
           refine sq_p (Value.int .u32 y47.addr) hA ?_; clear hA ac; intro ac hA
           refine sq_q (Value.slice Ao9 (g8).length co10) hA (Rd.load (b := b12) (i := 0) (by kernel_rfl) (fun _ hw => (hw.1).cel 3 rfl) (by kernel_rfl)) ?_; clear hA ac; intro ac hA
           refine sq_q (Value.int .i64 n) hA (Rd.load (b := b42) (i := 0) (by kernel_rfl) (fun _ hw => (hw.1).cel 2 rfl) (by kernel_rfl)) ?_; clear hA ac; intro ac hA
           obtain ⟨y54, hy54⟩ : ∃ y, g8[Int.toNat (n)]? = some y := ⟨_, List.getElem?_eq_getElem (by first | omega | (simp; done) | (simp; omega))⟩
           obtain ⟨b55, o56, rfl, hbb55⟩ := row_some (rowR_at ((hW).get 5 rfl) elt_Rc22.len) hy54
           refine sq_q (Value.pointer (some ⟨b55, o56 + (Int.toNat (n)) * 8, none⟩)) hA (Rd.indexAddrI (e := 75) (sz := 8) (b := b55) (off := o56) (n := (g8).length) (c := co10) (k := n) (by kernel_rfl) (by kernel_rfl) (by omega) (by first | omega | (simp; done) | (simp; omega)) (fun _ => by kernel_rfl) (fun _ => by kernel_rfl)) ?_; clear hA ac; intro ac hA
           refine sq_p (Value.pointer (some ⟨b55, o56 + (Int.toNat (n)) * 8, none⟩)) hA ?_; clear hA ac; intro ac hA
           refine sq_q (Value.int .u32 y54.addr) hA (Rd.loadRow (b := b55) (i := o56 + (Int.toNat (n)) * 8) (xs := [Value.int .u32 y54.addr]) (by kernel_rfl) (fun _ hw => row_ld (rowR_at ((hw.1).get 5 rfl) elt_Rc22.len) hy54 (Fr.refl No _) (fun h => h) 0 1 (by kernel_rfl)) (by kernel_rfl)) ?_; clear hA ac; intro ac hA
           refine sq_p (Value.bool ((y47.addr : Int) != (y54.addr : Int))) hA ?_; clear hA ac; intro ac hA
           refine sq_p (Value.bool ((y47.addr : Int) != (y54.addr : Int))) hA ?_; clear hA ac; intro ac hA
           refine sq_p (Value.bool ((y47.addr : Int) != (y54.addr : Int))) hA ?_; clear hA ac; intro ac hA
           rcases Bool.eq_false_or_eq_true ((y47.addr : Int) != (y54.addr : Int)) with h57 | h57
           · skip
             rw [h57] at hA
             have h57 := bne_iff_ne.1 h57
             first
             | (exfalso; clear hA hW; omega)
             | (exfalso; clear hA hW; have hye_ : y54 = y47 := Option.some.inj (hy54.symm.trans (by rw [show (Int.toNat n) = pre_.length from by omega]; exact he_)); rw [hye_] at h57; first | exact h57 rfl | omega; done)
             | (
               fail)
           · skip
             rw [h57] at hA
             have h57 := of_bne_f h57
             first
             | (exfalso; clear hA hW; omega)
             | (exfalso; clear hA hW; have hye_ : y54 = y47 := Option.some.inj (hy54.symm.trans (by rw [show (Int.toNat n) = pre_.length from by omega]; exact he_)); rw [hye_] at h57; first | exact h57 rfl | omega; done)
             | (
               refine sq_q (Value.agg #[Value.int .u64 y47.x.wr, Value.int .i64 y47.x.ws.f, Value.int .i64 y47.x.ws.pc, Value.int .u64 y47.x.rd, Value.int .i64 y47.x.rs.f, Value.int .i64 y47.x.rs.pc, Value.int .i64 y47.x.vec]) hA (Rd.load (b := b48) (i := 0) (by kernel_rfl) (fun _ hw => (hw.1).cel 0 rfl) (by kernel_rfl)) ?_; clear hA ac; intro ac hA
               refine sq_q (Value.slice (some ⟨b55, o56, none⟩) (g8).length co10) hA (Rd.load (b := b12) (i := 0) (by kernel_rfl) (fun _ hw => (hw.1).cel 3 rfl) (by kernel_rfl)) ?_; clear hA ac; intro ac hA
               refine sq_q (Value.int .i64 n) hA (Rd.load (b := b42) (i := 0) (by kernel_rfl) (fun _ hw => (hw.1).cel 2 rfl) (by kernel_rfl)) ?_; clear hA ac; intro ac hA
               refine sq_q (Value.pointer (some ⟨b55, o56 + (Int.toNat (n)) * 8, none⟩)) hA (Rd.indexAddrI (e := 75) (sz := 8) (b := b55) (off := o56) (n := (g8).length) (c := co10) (k := n) (by kernel_rfl) (by kernel_rfl) (by omega) (by first | omega | (simp; done) | (simp; omega)) (fun _ => by kernel_rfl) (fun _ => by kernel_rfl)) ?_; clear hA ac; intro ac hA
               refine sq_p (Value.pointer (some ⟨b55, o56 + (Int.toNat (n)) * 8 + 1, none⟩)) hA ?_; clear hA ac; intro ac hA
               refine sq_q (Value.agg #[Value.int .u64 y54.x.wr, Value.int .i64 y54.x.ws.f, Value.int .i64 y54.x.ws.pc, Value.int .u64 y54.x.rd, Value.int .i64 y54.x.rs.f, Value.int .i64 y54.x.rs.pc, Value.int .i64 y54.x.vec]) hA (Rd.loadRow (b := b55) (i := o56 + (Int.toNat (n)) * 8 + 1) (xs := [Value.int .u64 y54.x.wr, Value.int .i64 y54.x.ws.f, Value.int .i64 y54.x.ws.pc, Value.int .u64 y54.x.rd, Value.int .i64 y54.x.rs.f, Value.int .i64 y54.x.rs.pc, Value.int .i64 y54.x.vec]) (by kernel_rfl) (fun _ hw => row_ld (rowR_at ((hw.1).get 5 rfl) elt_Rc22.len) hy54 (Fr.refl No _) (fun h => h) 1 7 (by kernel_rfl)) (by kernel_rfl)) ?_; clear hA ac; intro ac hA
               refine sq_q (Value.bool (!decide (y47.x = y54.x))) hA (Rd.neS (u := y47.x.v) (v := y54.x.v) (by kernel_rfl) (by kernel_rfl) rfl rfl (by kernel_rfl) (fun w => eq_Shade w y47.x y54.x)) ?_; clear hA ac; intro ac hA
               refine sq_p (Value.bool (!decide (y47.x = y54.x))) hA ?_; clear hA ac; intro ac hA
               refine sq_nil ?_; intro w59 hww59; have hW := hww59.1; have hfw59 := hww59.2; clear hww59
               refine thenN ?_
               refine wpIn_cond_split (t := !decide (y47.x = y54.x)) (hA.eval (by kernel_rfl)) (fun h60 => ?_) (fun h60 => ?_)
               · skip
                 have h60 := not_t h60
                 have h60 := of_decide_eq_false h60
                 have h60e := fun e => h60 ((Shade.eqi _ _).2 e)
                 first
                 | (exfalso; clear hA hW; omega)
                 | (exfalso; clear hA hW; have hye_ : y54 = y47 := Option.some.inj (hy54.symm.trans (by rw [show (Int.toNat n) = pre_.length from by omega]; exact he_)); rw [hye_] at h60; first | exact h60 rfl | omega; done)
                 | (
                   fail)
               · skip
                 have h60 := not_f h60
                 have h60 := of_decide_eq_true h60
                 have h60e := (Shade.eqi _ _).1 h60
                 first
                 | (exfalso; clear hA hW; omega)
                 | (exfalso; clear hA hW; have hye_ : y54 = y47 := Option.some.inj (hy54.symm.trans (by rw [show (Int.toNat n) = pre_.length from by omega]; exact he_)); rw [hye_] at h60; first | exact h60 rfl | omega; done)
                 | (
                   refine wpIn_skip ?_
                   refine thenN ?_
                   refine wpIn_seq ?_
                   refine wpIn_region_lit ?_
                   refine st_rdF (v := Value.int .i64 n) hA (by kernel_rfl) (by kernel_rfl) (by kernel_rfl) (by kernel_rfl) hW.cls (Rd.load (b := b42) (i := 0) (by kernel_rfl) (fun _ hw => (hw.1).cel 2 rfl) (by kernel_rfl)) ?_; clear hA ac; intro ac hA
                   refine st_rdF (v := Value.int .i64 ((n : Int) + 1)) hA (by kernel_rfl) (by kernel_rfl) (by kernel_rfl) (by kernel_rfl) hW.cls (Rd.pureE (v0 := Value.int .i64 (IntKind.i64.wrap ((n : Int) + 1))) (fun _ => by kernel_rfl) (congrArg (Value.int .i64) ((w_i64 (x := (n : Int) + 1) (by omega) (by omega)).trans (by omega)))) ?_; clear hA ac; intro ac hA
                   refine stF hA (by kernel_rfl) (by kernel_rfl) (by kernel_rfl) (by kernel_rfl) (RunsF.of (Runs.store (v := Value.int .i64 ((n : Int) + 1)) (b := b42) (j := 0) (n := 1) (cs' := #[Value.int .i64 ((n : Int) + 1)]) (H' := [Cel b48 #[Value.int .u64 y47.x.wr, Value.int .i64 y47.x.ws.f, Value.int .i64 y47.x.ws.pc, Value.int .u64 y47.x.rd, Value.int .i64 y47.x.rs.f, Value.int .i64 y47.x.rs.pc, Value.int .i64 y47.x.vec] 31, bs_45, Cel b42 #[Value.int .i64 ((n : Int) + 1)] 3, Cel b12 #[Value.slice (some ⟨b55, o56, none⟩) (g8).length co10] 43, Cel b3 #[Value.int .i64 many] 3, rowR 75 8 enCell22 (Value.slice (some ⟨b55, o56, none⟩) (g8).length co10) g8]) (by kernel_rfl) (by kernel_rfl) (by kernel_rfl) (by kernel_rfl) (by kernel_rfl) hW 2 (by rfl) (Nat.le_of_ble_eq_true (by kernel_rfl)) (by kernel_rfl) (by rfl) ?_)); clear hA ac hW; intro w61 hW ac hA
                   refine wpListIn_nil ?_
                   refine thenN ?_
                   refine wpIn_seq ?_
                   refine wpIn_region_lit ?_
                   refine st_rdF (v := Value.int .i64 ((n : Int) + 1)) hA (by kernel_rfl) (by kernel_rfl) (by kernel_rfl) (by kernel_rfl) hW.cls (Rd.load (b := b42) (i := 0) (by kernel_rfl) (fun _ hw => (hw.1).cel 2 rfl) (by kernel_rfl)) ?_; clear hA ac; intro ac hA
                   refine st_rdF (v := Value.int .i64 many) hA (by kernel_rfl) (by kernel_rfl) (by kernel_rfl) (by kernel_rfl) hW.cls (Rd.load (b := b3) (i := 0) (by kernel_rfl) (fun _ hw => (hw.1).cel 4 rfl) (by kernel_rfl)) ?_; clear hA ac; intro ac hA
                   refine st_rdF (v := Value.bool (decide (((n : Int) + 1 : Int) ≥ (many : Int)))) hA (by kernel_rfl) (by kernel_rfl) (by kernel_rfl) (by kernel_rfl) hW.cls (Rd.pure fun _ => by kernel_rfl) ?_; clear hA ac; intro ac hA
                   refine wpListIn_nil ?_
                   refine thenN ?_
                   refine wpIn_cond_split (t := decide (((n : Int) + 1 : Int) ≥ (many : Int))) (hA.eval (by kernel_rfl)) (fun h62 => ?_) (fun h62 => ?_)
                   · skip
                     have h62 := of_decide_eq_true h62
                     first
                     | (exfalso; clear hA hW; omega)
                     | (exfalso; clear hA hW; have hye_ : y54 = y47 := Option.some.inj (hy54.symm.trans (by rw [show (Int.toNat n) = pre_.length from by omega]; exact he_)); rw [hye_] at h62; first | exact h62 rfl | omega; done)
                     | (
                       refine wpIn_exit ?_
                       refine blkY (by kernel_rfl) ?_
                       exact ⟨_, ⟨rfl, (n : Int) + 1, by omega, rfl⟩, (hW.pick [1, 2, 3, 4, 5] (by decide) rfl).pickG [0, 1, 2] rfl⟩)
                   · skip
                     have h62 := of_decide_eq_false h62
                     first
                     | (exfalso; clear hA hW; omega)
                     | (exfalso; clear hA hW; have hye_ : y54 = y47 := Option.some.inj (hy54.symm.trans (by rw [show (Int.toNat n) = pre_.length from by omega]; exact he_)); rw [hye_] at h62; first | exact h62 rfl | omega; done)
                     | (
                       refine wpIn_skip ?_
                       refine blkN ?_
                       exact ⟨_, ⟨(n : Int) + 1, trivial, by simp; omega, by omega, rfl⟩, (hW.pick [1, 2, 3, 4, 5] (by decide) rfl).pickG [0, 1, 2] rfl⟩))))
     · skip
       clear hA ac hW; intro D63 pre_ Hk_ w64 ac hS_ hJ_ hA hW
       obtain ⟨n, _, hn, hm, rfl⟩ := hJ_
       replace hW : Ws w No [Cel b42 #[Value.int .i64 n] 3, Cel b12 #[Value.slice Ao9 (g8).length co10] 43, Cel b3 #[Value.int .i64 many] 3, rowR 75 8 enCell22 (Value.slice Ao9 (g8).length co10) g8, DefR D63, rowR 35 1 enU4 (Value.slice Aor3_23 (g0r3_23).length cor3_23) g0r3_23, rowR 35 1 enU4 (Value.slice Aor3_21 (g1r3_21).length cor3_21) g1r3_21, rowR 35 1 enU4 (Value.slice Aor3_15 (g0r3_15).length cor3_15) g0r3_15, rowR 35 1 enU4 (Value.slice Aor3_13 (g0r3_13).length cor3_13) g0r3_13, Cel b5 #[Value.bool false] 4, Cel b1 #[Value.slice A_L L.length c_L] 45] [g17, ShR m b V, roR A_L 8 enCell22 L] w64 := hW
       have hall_ : pre_.length = g8.length := by obtain ⟨ks_, h1_, h2_, h3_⟩ := hS_; rw [h3_, hR_.all h1_ h2_, hw7_hp]; rfl
       refine blkN ?_
       refine thenN ?_
       refine wpIn_seq ?_
       refine wpIn_region_lit ?_
       refine st_rdF (v := Value.int .i64 n) hA (by kernel_rfl) (by kernel_rfl) (by kernel_rfl) (by kernel_rfl) hW.cls (Rd.load (b := b42) (i := 0) (by kernel_rfl) (fun _ hw => (hw.1).cel 0 rfl) (by kernel_rfl)) ?_; clear hA ac; intro ac hA
       refine st_rdF (v := Value.slice Ao9 (g8).length co10) hA (by kernel_rfl) (by kernel_rfl) (by kernel_rfl) (by kernel_rfl) hW.cls (Rd.load (b := b12) (i := 0) (by kernel_rfl) (fun _ hw => (hw.1).cel 1 rfl) (by kernel_rfl)) ?_; clear hA ac; intro ac hA
       refine st_rdF (v := Value.int .i64 (((g8).length : Nat) : Int)) hA (by kernel_rfl) (by kernel_rfl) (by kernel_rfl) (by kernel_rfl) hW.cls (Rd.pure fun _ => by kernel_rfl) ?_; clear hA ac; intro ac hA
       refine st_rdF (v := Value.int .i64 many) hA (by kernel_rfl) (by kernel_rfl) (by kernel_rfl) (by kernel_rfl) hW.cls (Rd.load (b := b3) (i := 0) (by kernel_rfl) (fun _ hw => (hw.1).cel 2 rfl) (by kernel_rfl)) ?_; clear hA ac; intro ac hA
       refine st_rdF (v := Value.int .i64 (max (1 : Int) (many : Int))) hA (by kernel_rfl) (by kernel_rfl) (by kernel_rfl) (by kernel_rfl) hW.cls (Rd.pureE (v0 := Value.int .i64 (if (many : Int) > (1 : Int) then (many : Int) else (1 : Int))) (fun _ => by kernel_rfl) (congrArg (Value.int .i64) (max_ _ _))) ?_; clear hA ac; intro ac hA
       refine st_rdF (v := Value.int .i64 (min ((((g8).length : Nat) : Int) : Int) (max (1 : Int) (many : Int) : Int))) hA (by kernel_rfl) (by kernel_rfl) (by kernel_rfl) (by kernel_rfl) hW.cls (Rd.pureE (v0 := Value.int .i64 (if (max (1 : Int) (many : Int) : Int) < ((((g8).length : Nat) : Int) : Int) then (max (1 : Int) (many : Int) : Int) else ((((g8).length : Nat) : Int) : Int))) (fun _ => by kernel_rfl) (congrArg (Value.int .i64) (min_ _ _))) ?_; clear hA ac; intro ac hA
       refine st_rdF (v := Value.bool ((n : Int) == (min ((((g8).length : Nat) : Int) : Int) (max (1 : Int) (many : Int) : Int) : Int))) hA (by kernel_rfl) (by kernel_rfl) (by kernel_rfl) (by kernel_rfl) hW.cls (Rd.pure fun _ => by kernel_rfl) ?_; clear hA ac; intro ac hA
       refine stF hA (by kernel_rfl) (by kernel_rfl) (by kernel_rfl) (by kernel_rfl) (RunsF.of (Runs.store (v := Value.bool ((n : Int) == (min ((((g8).length : Nat) : Int) : Int) (max (1 : Int) (many : Int) : Int) : Int))) (b := b5) (j := 0) (n := 1) (cs' := #[Value.bool ((n : Int) == (min ((((g8).length : Nat) : Int) : Int) (max (1 : Int) (many : Int) : Int) : Int))]) (H' := [Cel b42 #[Value.int .i64 n] 3, Cel b12 #[Value.slice Ao9 (g8).length co10] 43, Cel b3 #[Value.int .i64 many] 3, rowR 75 8 enCell22 (Value.slice Ao9 (g8).length co10) g8, DefR D63, rowR 35 1 enU4 (Value.slice Aor3_23 (g0r3_23).length cor3_23) g0r3_23, rowR 35 1 enU4 (Value.slice Aor3_21 (g1r3_21).length cor3_21) g1r3_21, rowR 35 1 enU4 (Value.slice Aor3_15 (g0r3_15).length cor3_15) g0r3_15, rowR 35 1 enU4 (Value.slice Aor3_13 (g0r3_13).length cor3_13) g0r3_13, Cel b5 #[Value.bool ((n : Int) == (min ((((g8).length : Nat) : Int) : Int) (max (1 : Int) (many : Int) : Int) : Int))] 4, Cel b1 #[Value.slice A_L L.length c_L] 45]) (by kernel_rfl) (by kernel_rfl) (by kernel_rfl) (by kernel_rfl) (by kernel_rfl) hW 9 (by rfl) (Nat.le_of_ble_eq_true (by kernel_rfl)) (by kernel_rfl) (by rfl) ?_)); clear hA ac hW; intro w65 hW ac hA
       refine wpListIn_nil ?_
       refine thenN ?_
       refine wpIn_ret ?_
       refine retF (.inl rfl) hA ?_
       refine leaveD (H' := [Cel b42 #[Value.int .i64 n] 3, Cel b12 #[Value.slice Ao9 (g8).length co10] 43, Cel b3 #[Value.int .i64 many] 3, rowR 75 8 enCell22 (Value.slice Ao9 (g8).length co10) g8, rowR 35 1 enU4 (Value.slice Aor3_23 (g0r3_23).length cor3_23) g0r3_23, rowR 35 1 enU4 (Value.slice Aor3_21 (g1r3_21).length cor3_21) g1r3_21, rowR 35 1 enU4 (Value.slice Aor3_15 (g0r3_15).length cor3_15) g0r3_15, rowR 35 1 enU4 (Value.slice Aor3_13 (g0r3_13).length cor3_13) g0r3_13, Cel b5 #[Value.bool ((n : Int) == (min ((((g8).length : Nat) : Int) : Int) (max (1 : Int) (many : Int) : Int) : Int))] 4, Cel b1 #[Value.slice A_L L.length c_L] 45]) hW 4 rfl rfl ?_; clear hW; intro w66 hW
       refine leave1 (v := Value.bool ((n : Int) == (min ((((g8).length : Nat) : Int) : Int) (max (1 : Int) (many : Int) : Int) : Int))) (by rfl) (GotF.cell (b := b5) (i := 0) hA (by kernel_rfl) (by kernel_rfl) (hW.cel 8 rfl) (by kernel_rfl)) ?_
       clear hA
       exact ⟨retv (by (refine congrArg Value.bool (beq_iff_eq.2 ?_); omega)), hW.fr⟩
     · skip
       clear hA ac hW; intro D67 c_ pre_ Hk_ w68 ac hJ_ hA hW
       rcases hJ_ with ⟨rfl, n, hx, rfl⟩
       · skip
         replace hW : Ws w No [Cel b42 #[Value.int .i64 n] 3, Cel b12 #[Value.slice Ao9 (g8).length co10] 43, Cel b3 #[Value.int .i64 many] 3, rowR 75 8 enCell22 (Value.slice Ao9 (g8).length co10) g8, DefR D67, rowR 35 1 enU4 (Value.slice Aor3_23 (g0r3_23).length cor3_23) g0r3_23, rowR 35 1 enU4 (Value.slice Aor3_21 (g1r3_21).length cor3_21) g1r3_21, rowR 35 1 enU4 (Value.slice Aor3_15 (g0r3_15).length cor3_15) g0r3_15, rowR 35 1 enU4 (Value.slice Aor3_13 (g0r3_13).length cor3_13) g0r3_13, Cel b5 #[Value.bool false] 4, Cel b1 #[Value.slice A_L L.length c_L] 45] [g17, ShR m b V, roR A_L 8 enCell22 L] w68 := hW
         refine wpIn_exit ?_
         refine blkX ?_
         refine thenN ?_
         refine wpIn_seq ?_
         refine wpIn_region_lit ?_
         refine st_rdF (v := Value.int .i64 n) hA (by kernel_rfl) (by kernel_rfl) (by kernel_rfl) (by kernel_rfl) hW.cls (Rd.load (b := b42) (i := 0) (by kernel_rfl) (fun _ hw => (hw.1).cel 0 rfl) (by kernel_rfl)) ?_; clear hA ac; intro ac hA
         refine st_rdF (v := Value.slice Ao9 (g8).length co10) hA (by kernel_rfl) (by kernel_rfl) (by kernel_rfl) (by kernel_rfl) hW.cls (Rd.load (b := b12) (i := 0) (by kernel_rfl) (fun _ hw => (hw.1).cel 1 rfl) (by kernel_rfl)) ?_; clear hA ac; intro ac hA
         refine st_rdF (v := Value.int .i64 (((g8).length : Nat) : Int)) hA (by kernel_rfl) (by kernel_rfl) (by kernel_rfl) (by kernel_rfl) hW.cls (Rd.pure fun _ => by kernel_rfl) ?_; clear hA ac; intro ac hA
         refine st_rdF (v := Value.int .i64 many) hA (by kernel_rfl) (by kernel_rfl) (by kernel_rfl) (by kernel_rfl) hW.cls (Rd.load (b := b3) (i := 0) (by kernel_rfl) (fun _ hw => (hw.1).cel 2 rfl) (by kernel_rfl)) ?_; clear hA ac; intro ac hA
         refine st_rdF (v := Value.int .i64 (max (1 : Int) (many : Int))) hA (by kernel_rfl) (by kernel_rfl) (by kernel_rfl) (by kernel_rfl) hW.cls (Rd.pureE (v0 := Value.int .i64 (if (many : Int) > (1 : Int) then (many : Int) else (1 : Int))) (fun _ => by kernel_rfl) (congrArg (Value.int .i64) (max_ _ _))) ?_; clear hA ac; intro ac hA
         refine st_rdF (v := Value.int .i64 (min ((((g8).length : Nat) : Int) : Int) (max (1 : Int) (many : Int) : Int))) hA (by kernel_rfl) (by kernel_rfl) (by kernel_rfl) (by kernel_rfl) hW.cls (Rd.pureE (v0 := Value.int .i64 (if (max (1 : Int) (many : Int) : Int) < ((((g8).length : Nat) : Int) : Int) then (max (1 : Int) (many : Int) : Int) else ((((g8).length : Nat) : Int) : Int))) (fun _ => by kernel_rfl) (congrArg (Value.int .i64) (min_ _ _))) ?_; clear hA ac; intro ac hA
         refine st_rdF (v := Value.bool ((n : Int) == (min ((((g8).length : Nat) : Int) : Int) (max (1 : Int) (many : Int) : Int) : Int))) hA (by kernel_rfl) (by kernel_rfl) (by kernel_rfl) (by kernel_rfl) hW.cls (Rd.pure fun _ => by kernel_rfl) ?_; clear hA ac; intro ac hA
         refine stF hA (by kernel_rfl) (by kernel_rfl) (by kernel_rfl) (by kernel_rfl) (RunsF.of (Runs.store (v := Value.bool ((n : Int) == (min ((((g8).length : Nat) : Int) : Int) (max (1 : Int) (many : Int) : Int) : Int))) (b := b5) (j := 0) (n := 1) (cs' := #[Value.bool ((n : Int) == (min ((((g8).length : Nat) : Int) : Int) (max (1 : Int) (many : Int) : Int) : Int))]) (H' := [Cel b42 #[Value.int .i64 n] 3, Cel b12 #[Value.slice Ao9 (g8).length co10] 43, Cel b3 #[Value.int .i64 many] 3, rowR 75 8 enCell22 (Value.slice Ao9 (g8).length co10) g8, DefR D67, rowR 35 1 enU4 (Value.slice Aor3_23 (g0r3_23).length cor3_23) g0r3_23, rowR 35 1 enU4 (Value.slice Aor3_21 (g1r3_21).length cor3_21) g1r3_21, rowR 35 1 enU4 (Value.slice Aor3_15 (g0r3_15).length cor3_15) g0r3_15, rowR 35 1 enU4 (Value.slice Aor3_13 (g0r3_13).length cor3_13) g0r3_13, Cel b5 #[Value.bool ((n : Int) == (min ((((g8).length : Nat) : Int) : Int) (max (1 : Int) (many : Int) : Int) : Int))] 4, Cel b1 #[Value.slice A_L L.length c_L] 45]) (by kernel_rfl) (by kernel_rfl) (by kernel_rfl) (by kernel_rfl) (by kernel_rfl) hW 9 (by rfl) (Nat.le_of_ble_eq_true (by kernel_rfl)) (by kernel_rfl) (by rfl) ?_)); clear hA ac hW; intro w69 hW ac hA
         refine wpListIn_nil ?_
         refine thenN ?_
         refine wpIn_ret ?_
         refine retF (.inl rfl) hA ?_
         refine leaveD (H' := [Cel b42 #[Value.int .i64 n] 3, Cel b12 #[Value.slice Ao9 (g8).length co10] 43, Cel b3 #[Value.int .i64 many] 3, rowR 75 8 enCell22 (Value.slice Ao9 (g8).length co10) g8, rowR 35 1 enU4 (Value.slice Aor3_23 (g0r3_23).length cor3_23) g0r3_23, rowR 35 1 enU4 (Value.slice Aor3_21 (g1r3_21).length cor3_21) g1r3_21, rowR 35 1 enU4 (Value.slice Aor3_15 (g0r3_15).length cor3_15) g0r3_15, rowR 35 1 enU4 (Value.slice Aor3_13 (g0r3_13).length cor3_13) g0r3_13, Cel b5 #[Value.bool ((n : Int) == (min ((((g8).length : Nat) : Int) : Int) (max (1 : Int) (many : Int) : Int) : Int))] 4, Cel b1 #[Value.slice A_L L.length c_L] 45]) hW 4 rfl rfl ?_; clear hW; intro w70 hW
         refine leave1 (v := Value.bool ((n : Int) == (min ((((g8).length : Nat) : Int) : Int) (max (1 : Int) (many : Int) : Int) : Int))) (by rfl) (GotF.cell (b := b5) (i := 0) hA (by kernel_rfl) (by kernel_rfl) (hW.cel 8 rfl) (by kernel_rfl)) ?_
         clear hA
         exact ⟨retv (by (refine congrArg Value.bool (beq_iff_eq.2 ?_); omega)), hW.fr⟩)

end Go.Proofs.Ytcgcippmbeileaa.L
