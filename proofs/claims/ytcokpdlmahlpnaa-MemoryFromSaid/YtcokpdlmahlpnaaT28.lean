/- Contracts, walked by program over the engine's laws. -/
import Derived.Test.YtcokpdlmahlpnaaProg
import Derived.Test.YtcokpdlmahlpnaaT25
namespace Go.Proofs.Ytcokpdlmahlpnaa.L
open Go.RowKit

set_option maxRecDepth 100000 in
theorem e_from06 (A_l : Option Addr) (c_l : Nat) (l : List Cell6) (frm : Int) (many : Int) (w : World) (hr_l : RowAt w A_l 2 enCell6 l) (hc_l : l.length ≤ c_l) (hwf : ∀ x ∈ l, (0 ≤ x.addr ∧ x.addr ≤ 4294967295) ∧ (0 ≤ x.word ∧ x.word ≤ 4294967295)) (hf : 0 ≤ frm ∧ frm ≤ 4294967295) (hmy : -9223372036854775808 ≤ many ∧ many ≤ 9223372036854775807) : Calls Try.prog 4 #[Value.slice A_l l.length c_l, Value.int .u32 frm, Value.int .i64 many] w (fun e w' => e = .returned (Value.bool true) ∧ Fr No w w') := by
 have _hu := hc_l; have _hv := hr_l; clear _hu _hv
 have _hu := hwf; clear _hu
 have _hu := hf; clear _hu
 have _hu := hmy; clear _hu
 refine enter_F 103 Try.func4 rfl rfl (by kernel_rfl) (L := [(0, Value.slice A_l l.length c_l), (1, Value.int .u32 frm), (2, Value.int .i64 many)]) (by kernel_rfl) ?_
 intro ac hA
 have hW := Ws.start w No
 have hW := hW.arg hr_l
 refine wpIn_seq ?_
 refine wpIn_region_lit ?_
 refine stF hA (by kernel_rfl) (by kernel_rfl) (by kernel_rfl) (by kernel_rfl) (RunsF.of (Runs.cells (fun b => Value.pointer (some ⟨b, 0, none⟩)) #[Value.int .i64 many] 3 (fun _ => by kernel_rfl) hW ?_)); clear hA ac hW; intro b1 w2 hW hb1 hfw2 ac hA
 refine stF hA (by kernel_rfl) (by kernel_rfl) (by kernel_rfl) (by kernel_rfl) (RunsF.of (Runs.cells (fun b => Value.pointer (some ⟨b, 0, none⟩)) #[Value.bool false] 4 (fun _ => by kernel_rfl) hW ?_)); clear hA ac hW; intro b3 w4 hW hb3 hfw4 ac hA
 refine wpListIn_nil ?_
 refine thenN ?_
 refine wpIn_seq ?_
 refine wpIn_seq ?_
 refine wpIn_region_lit ?_
 refine st_rdF (v := Value.slice A_l l.length c_l) hA (by kernel_rfl) (by kernel_rfl) (by kernel_rfl) (by kernel_rfl) hW.cls (Rd.pure fun _ => by kernel_rfl) ?_; clear hA ac; intro ac hA
 refine st_rdF (v := Value.int .i64 ((l.length : Nat) : Int)) hA (by kernel_rfl) (by kernel_rfl) (by kernel_rfl) (by kernel_rfl) hW.cls (Rd.pure fun _ => by kernel_rfl) ?_; clear hA ac; intro ac hA
 refine st_rdF (v := Value.bool (decide ((((l.length : Nat) : Int) : Int) > (30 : Int)))) hA (by kernel_rfl) (by kernel_rfl) (by kernel_rfl) (by kernel_rfl) hW.cls (Rd.pure fun _ => by kernel_rfl) ?_; clear hA ac; intro ac hA
 refine wpListIn_nil ?_
 refine thenN ?_
 refine wpIn_cond_split (t := decide ((((l.length : Nat) : Int) : Int) > (30 : Int))) (hA.eval (by kernel_rfl)) (fun h5 => ?_) (fun h5 => ?_)
 · skip
   have h5 := of_decide_eq_true h5
   first
   | (exfalso; clear hA hW; omega)
   | (
     refine wpIn_seq ?_
     refine wpIn_region_lit ?_
     refine stF hA (by kernel_rfl) (by kernel_rfl) (by kernel_rfl) (by kernel_rfl) (RunsF.of (Runs.callN (v := Value.bool true) (fun _ => by kernel_rfl) hW (e_works06 w4) ?_)); clear hA ac hW; intro w6 hW hfw6 ac hA
     refine stF hA (by kernel_rfl) (by kernel_rfl) (by kernel_rfl) (by kernel_rfl) (RunsF.of (Runs.store (v := Value.bool true) (b := b3) (j := 0) (n := 1) (cs' := #[Value.bool true]) (H' := [Cel b3 #[Value.bool true] 4, Cel b1 #[Value.int .i64 many] 3]) (by kernel_rfl) (by kernel_rfl) (by kernel_rfl) (by kernel_rfl) (by kernel_rfl) hW 0 (by rfl) (Nat.le_of_ble_eq_true (by kernel_rfl)) (by kernel_rfl) (by rfl) ?_)); clear hA ac hW; intro w7 hW ac hA
     refine wpListIn_nil ?_
     refine thenN ?_
     refine wpIn_ret ?_
     refine thenR ?_
     refine retF (.inl rfl) hA ?_
     refine leave1 (v := Value.bool true) (by rfl) (GotF.cell (b := b3) (i := 0) hA (by kernel_rfl) (by kernel_rfl) (hW.cel 0 rfl) (by kernel_rfl)) ?_
     clear hA
     exact ⟨retv (by rfl), hW.fr⟩)
 · skip
   have h5 := of_decide_eq_false h5
   first
   | (exfalso; clear hA hW; omega)
   | (
     refine wpIn_skip ?_
     refine thenN ?_
     refine wpIn_seq ?_
     refine wpIn_region_lit ?_
     refine st_rdF (v := Value.slice A_l l.length c_l) hA (by kernel_rfl) (by kernel_rfl) (by kernel_rfl) (by kernel_rfl) hW.cls (Rd.pure fun _ => by kernel_rfl) ?_; clear hA ac; intro ac hA
     refine stF hA (by kernel_rfl) (by kernel_rfl) (by kernel_rfl) (by kernel_rfl) (RunsF.of (Runs.call (fun _ => by kernel_rfl) (e_played06 A_l c_l l w4 ((hW).getG 0 rfl) (by first | assumption | omega | (simp; omega) | simp) (by first | omega | assumption | (simp; done) | (constructor <;> omega) | (intro x hx; simp only [List.mem_cons, List.not_mem_nil, or_false] at hx; rcases hx with rfl | rfl <;> simp <;> omega)) (by first | omega | assumption | (simp; done) | (constructor <;> omega) | (intro x hx; simp only [List.mem_cons, List.not_mem_nil, or_false] at hx; rcases hx with rfl | rfl <;> simp <;> omega))) ?_))
     rintro _ w8 ⟨n9, n10, n11, n12, Ao13, co14, rfl, hw8_hR, hcco14, hfco14, hdco14, hu_⟩; refine ⟨_, rfl, ?_⟩; have hW0 := hW; have hW := hW.made hu_
     have hW := hW0.madeFromAt hW hfco14 (in_cons (in_at 0 rfl) in_nil) hdco14
     clear hW0 hu_ hfco14 hdco14 hA ac; intro ac hA
     have hq15 : Rel06 l.length n12 n11 := hw8_hR
     refine st_rdF (v := Value.tuple #[Value.pointer (some ⟨n9, 0, none⟩), Value.agg #[Value.slice Ao13 (n12).length co14]]) hA (by kernel_rfl) (by kernel_rfl) (by kernel_rfl) (by kernel_rfl) hW.cls (Rd.pure fun _ => by kernel_rfl) ?_; clear hA ac; intro ac hA
     refine st_rdF (v := Value.pointer (some ⟨n9, 0, none⟩)) hA (by kernel_rfl) (by kernel_rfl) (by kernel_rfl) (by kernel_rfl) hW.cls (Rd.pure fun _ => by kernel_rfl) ?_; clear hA ac; intro ac hA
     refine st_rdF (v := Value.agg #[Value.slice Ao13 (n12).length co14]) hA (by kernel_rfl) (by kernel_rfl) (by kernel_rfl) (by kernel_rfl) hW.cls (Rd.pure fun _ => by kernel_rfl) ?_; clear hA ac; intro ac hA
     refine stF hA (by kernel_rfl) (by kernel_rfl) (by kernel_rfl) (by kernel_rfl) (RunsF.of (Runs.cells (fun b => Value.pointer (some ⟨b, 0, none⟩)) #[Value.slice none 0 0] 38 (fun _ => by kernel_rfl) hW ?_)); clear hA ac hW; intro b16 w17 hW hb16 hfw17 ac hA
     refine st_rdF (v := Value.pointer (some ⟨n9, 0, none⟩)) hA (by kernel_rfl) (by kernel_rfl) (by kernel_rfl) (by kernel_rfl) hW.cls (Rd.pure fun _ => by kernel_rfl) ?_; clear hA ac; intro ac hA
     refine stF hA (by kernel_rfl) (by kernel_rfl) (by kernel_rfl) (by kernel_rfl) (RunsF.of (Runs.store (v := Value.agg #[Value.slice Ao13 (n12).length co14]) (b := b16) (j := 0) (n := 1) (cs' := #[Value.slice Ao13 (n12).length co14]) (H' := [Cel b16 #[Value.slice Ao13 (n12).length co14] 38, MemR n9 n10 n11, Cel b3 #[Value.bool false] 4, Cel b1 #[Value.int .i64 many] 3]) (by kernel_rfl) (by kernel_rfl) (by kernel_rfl) (by kernel_rfl) (by kernel_rfl) hW 0 (by rfl) (Nat.le_of_ble_eq_true (by kernel_rfl)) (by kernel_rfl) (by rfl) ?_)); clear hA ac hW; intro w18 hW ac hA
     refine wpListIn_nil ?_
     refine thenN ?_
     refine wpIn_seq ?_
     have hl_hw8_hR := hw8_hR.llen; obtain ⟨hw1, hw2, hw3, hw4⟩ := hw8_hR.more (by omega)
     refine wpIn_region_lit ?_
     refine st_rdF (v := Value.pointer (some ⟨n9, 0, none⟩)) hA (by kernel_rfl) (by kernel_rfl) (by kernel_rfl) (by kernel_rfl) hW.cls (Rd.pure fun _ => by kernel_rfl) ?_; clear hA ac; intro ac hA
     refine st_rdF (v := Value.int .u32 frm) hA (by kernel_rfl) (by kernel_rfl) (by kernel_rfl) (by kernel_rfl) hW.cls (Rd.pure fun _ => by kernel_rfl) ?_; clear hA ac; intro ac hA
     refine stF hA (by kernel_rfl) (by kernel_rfl) (by kernel_rfl) (by kernel_rfl) (RunsF.of (Runs.call (fun _ => by kernel_rfl) (e_mfrom n9 n10 n11 (frm) w18 ((hW).get 1 rfl) ((hW).lt _ (List.mem_of_getElem? (i := 1) rfl)) (by first | omega | assumption | (simp; done) | (constructor <;> omega) | (intro x hx; simp only [List.mem_cons, List.not_mem_nil, or_false] at hx; rcases hx with rfl | rfl <;> simp <;> omega)) (by first | omega | assumption | (simp; done) | (constructor <;> omega) | (intro x hx; simp only [List.mem_cons, List.not_mem_nil, or_false] at hx; rcases hx with rfl | rfl <;> simp <;> omega)) (by first | omega | assumption | (simp; done) | (constructor <;> omega) | (intro x hx; simp only [List.mem_cons, List.not_mem_nil, or_false] at hx; rcases hx with rfl | rfl <;> simp <;> omega))) ?_))
     rintro _ w19 ⟨lb20, g21, rfl, hIg21, hfg21, hfw19⟩; refine ⟨_, rfl, ?_⟩; have hW0 := hW; have hW := hW0.call hfw19; have hW := hW0.addFromAt hW hfg21 in_nil; clear hW0 hA ac; intro ac hA
     refine st_rdF (v := Value.func (.func 35) #[] lb20) hA (by kernel_rfl) (by kernel_rfl) (by kernel_rfl) (by kernel_rfl) hW.cls (Rd.pure fun _ => by kernel_rfl) ?_; clear hA ac; intro ac hA
     refine wpListIn_nil ?_
     refine thenN ?_
     refine wpIn_seq ?_
     refine wpIn_seq ?_
     refine wpIn_region_lit ?_
     refine st_rdF (v := Value.func (.func 35) #[] lb20) hA (by kernel_rfl) (by kernel_rfl) (by kernel_rfl) (by kernel_rfl) hW.cls (Rd.pure fun _ => by kernel_rfl) ?_; clear hA ac; intro ac hA
     refine st_rdF (v := Value.bool false) hA (by kernel_rfl) (by kernel_rfl) (by kernel_rfl) (by kernel_rfl) hW.cls (Rd.pure fun _ => by kernel_rfl) ?_; clear hA ac; intro ac hA
     refine st_rdF (v := Value.bool false) hA (by kernel_rfl) (by kernel_rfl) (by kernel_rfl) (by kernel_rfl) hW.cls (Rd.pure fun _ => by kernel_rfl) ?_; clear hA ac; intro ac hA
     refine st_rdF (v := Value.pointer (some ⟨n9, 0, none⟩)) hA (by kernel_rfl) (by kernel_rfl) (by kernel_rfl) (by kernel_rfl) hW.cls (Rd.pure fun _ => by kernel_rfl) ?_; clear hA ac; intro ac hA
     refine st_rdF (v := Value.int .u32 frm) hA (by kernel_rfl) (by kernel_rfl) (by kernel_rfl) (by kernel_rfl) hW.cls (Rd.pure fun _ => by kernel_rfl) ?_; clear hA ac; intro ac hA
     refine st_rdF (v := Value.agg #[Value.int .u32 frm, Value.int .u32 9]) hA (by kernel_rfl) (by kernel_rfl) (by kernel_rfl) (by kernel_rfl) hW.cls (Rd.pure fun _ => by kernel_rfl) ?_; clear hA ac; intro ac hA
     refine st_rdF (v := Value.agg #[Value.int .u32 4294967295, Value.int .u32 8]) hA (by kernel_rfl) (by kernel_rfl) (by kernel_rfl) (by kernel_rfl) hW.cls (Rd.pure fun _ => by kernel_rfl) ?_; clear hA ac; intro ac hA
     refine stF hA (by kernel_rfl) (by kernel_rfl) (by kernel_rfl) (by kernel_rfl) (RunsF.of (Runs.cells (fun b => Value.slice (some ⟨b, 0, none⟩) 2 2) #[Value.int .u32 frm, Value.int .u32 9, Value.int .u32 4294967295, Value.int .u32 8] 30 (fun _ => by kernel_rfl) hW ?_)); clear hA ac hW; intro b22 w23 hW hb22 hfw23 ac hA
     have hW := hW.share 0 rfl (H' := [Cel b16 #[Value.slice Ao13 (n12).length co14] 38, MemR n9 n10 n11, Cel b3 #[Value.bool false] 4, Cel b1 #[Value.int .i64 many] 3]) rfl
     have hW := hW.nestG (roR (some ⟨b22, 0, none⟩) 2 enCell6 ([(⟨frm, 9⟩ : Cell6), (⟨4294967295, 8⟩ : Cell6)] : List Cell6)) (rowAt_cel (show _ = _ from hW.getG 0 rfl) ([(⟨frm, 9⟩ : Cell6), (⟨4294967295, 8⟩ : Cell6)] : List Cell6) (by rfl) elt_Cell6.len) (fun _ hb_ => ⟨_, List.mem_of_getElem? (i := 0) rfl, cel_fp _ hb_⟩)
     refine stF hA (by kernel_rfl) (by kernel_rfl) (by kernel_rfl) (by kernel_rfl) (RunsF.of (Runs.call (fun _ => by kernel_rfl) (e_mstore n9 n10 n11 (some ⟨b22, 0, none⟩) 2 ([(⟨frm, 9⟩ : Cell6), (⟨4294967295, 8⟩ : Cell6)] : List Cell6) w23 ((hW).get 1 rfl) ((hW).lt _ (List.mem_of_getElem? (i := 1) rfl)) ((hW).getG 0 rfl) (by first | assumption | omega | (simp; omega) | simp) ((hW).gd _ (List.mem_of_getElem? (i := 0) rfl) _ (List.mem_of_getElem? (i := 1) rfl)) (by first | omega | assumption | (simp; done) | (constructor <;> omega) | (intro x hx; simp only [List.mem_cons, List.not_mem_nil, or_false] at hx; rcases hx with rfl | rfl <;> simp <;> omega)) (by first | omega | assumption | (simp; done) | (constructor <;> omega) | (intro x hx; simp only [List.mem_cons, List.not_mem_nil, or_false] at hx; rcases hx with rfl | rfl <;> simp <;> omega))) ?_))
     rintro _ w24 ⟨u25, rfl, hw24_hS, hu_⟩; refine ⟨_, rfl, ?_⟩; replace hW := hW.upd (H' := [Cel b16 #[Value.slice Ao13 (n12).length co14] 38, MemR n9 n10 u25, Cel b3 #[Value.bool false] 4, Cel b1 #[Value.int .i64 many] 3]) 1 rfl hu_ rfl; clear hA ac; intro ac hA
     refine stF hA (by kernel_rfl) (by kernel_rfl) (by kernel_rfl) (by kernel_rfl) (RunsF.of (Runs.callS (v := Value.int .i64 0) (fun _ => by kernel_rfl) (e_num06 (0) w24) ?_)); clear hA ac; intro  ac hA
     refine st_rdF (v := Value.bool false) hA (by kernel_rfl) (by kernel_rfl) (by kernel_rfl) (by kernel_rfl) hW.cls (Rd.pure fun _ => by kernel_rfl) ?_; clear hA ac; intro ac hA
     refine st_rdF (v := Value.bool false) hA (by kernel_rfl) (by kernel_rfl) (by kernel_rfl) (by kernel_rfl) hW.cls (Rd.pure fun _ => by kernel_rfl) ?_; clear hA ac; intro ac hA
     refine wpListIn_nil ?_
     refine thenN ?_
     refine wpIn_cond_false (hA.eval (by kernel_rfl)) ?_
     refine wpIn_skip ?_
     refine thenN ?_
     refine wpIn_seq ?_
     refine wpIn_region_lit ?_
     refine st_rdF (v := Value.agg #[Value.slice Ao13 (n12).length co14]) hA (by kernel_rfl) (by kernel_rfl) (by kernel_rfl) (by kernel_rfl) hW.cls (Rd.load (b := b16) (i := 0) (by kernel_rfl) (fun _ hw => (hw.1).cel 0 rfl) (by kernel_rfl)) ?_; clear hA ac; intro ac hA
     refine st_rdF (v := Value.int .u32 frm) hA (by kernel_rfl) (by kernel_rfl) (by kernel_rfl) (by kernel_rfl) hW.cls (Rd.pure fun _ => by kernel_rfl) ?_; clear hA ac; intro ac hA
     refine stF hA (by kernel_rfl) (by kernel_rfl) (by kernel_rfl) (by kernel_rfl) (RunsF.of (Runs.call (fun _ => by kernel_rfl) (e_rfrom Ao13 co14 n12 (frm) w24 ((hW).getG 3 rfl) (by first | assumption | omega | (simp; omega) | simp) (by first | omega | assumption | (simp; done) | (constructor <;> omega) | (intro x hx; simp only [List.mem_cons, List.not_mem_nil, or_false] at hx; rcases hx with rfl | rfl <;> simp <;> omega))) ?_))
     rintro _ w26 ⟨g27, Ao28, co29, rfl, hw26_hF, hcco29, hfco29, hfw26⟩; refine ⟨_, rfl, ?_⟩; have hW0 := hW; have hW := hW0.call hfw26
     have hW := hW0.addFromAt hW hfco29 (in_cons (in_at 3 rfl) in_nil)
     clear hW0 hA ac; intro ac hA
     refine stF hA (by kernel_rfl) (by kernel_rfl) (by kernel_rfl) (by kernel_rfl) (RunsF.of (Runs.cells (fun b => Value.pointer (some ⟨b, 0, none⟩)) #[Value.slice none 0 0] 22 (fun _ => by kernel_rfl) hW ?_)); clear hA ac hW; intro b30 w31 hW hb30 hfw31 ac hA
     refine stF hA (by kernel_rfl) (by kernel_rfl) (by kernel_rfl) (by kernel_rfl) (RunsF.of (Runs.store (v := Value.slice Ao28 (g27).length co29) (b := b30) (j := 0) (n := 1) (cs' := #[Value.slice Ao28 (g27).length co29]) (H' := [Cel b30 #[Value.slice Ao28 (g27).length co29] 22, Cel b16 #[Value.slice Ao13 (n12).length co14] 38, MemR n9 n10 u25, Cel b3 #[Value.bool false] 4, Cel b1 #[Value.int .i64 many] 3]) (by kernel_rfl) (by kernel_rfl) (by kernel_rfl) (by kernel_rfl) (by kernel_rfl) hW 0 (by rfl) (Nat.le_of_ble_eq_true (by kernel_rfl)) (by kernel_rfl) (by rfl) ?_)); clear hA ac hW; intro w32 hW ac hA
     refine wpListIn_nil ?_
     refine thenN ?_
     refine wpIn_seq ?_
     refine wpIn_seq ?_
     refine wpIn_region_lit ?_
     refine stF hA (by kernel_rfl) (by kernel_rfl) (by kernel_rfl) (by kernel_rfl) (RunsF.of (Runs.cells (fun b => Value.pointer (some ⟨b, 0, none⟩)) #[Value.int .i64 0] 3 (fun _ => by kernel_rfl) hW ?_)); clear hA ac hW; intro b33 w34 hW hb33 hfw34 ac hA
     refine stF hA (by kernel_rfl) (by kernel_rfl) (by kernel_rfl) (by kernel_rfl) (RunsF.of (Runs.store (v := Value.int .i64 0) (b := b33) (j := 0) (n := 1) (cs' := #[Value.int .i64 0]) (H' := [Cel b33 #[Value.int .i64 0] 3, Cel b30 #[Value.slice Ao28 (g27).length co29] 22, Cel b16 #[Value.slice Ao13 (n12).length co14] 38, MemR n9 n10 u25, Cel b3 #[Value.bool false] 4, Cel b1 #[Value.int .i64 many] 3]) (by kernel_rfl) (by kernel_rfl) (by kernel_rfl) (by kernel_rfl) (by kernel_rfl) hW 0 (by rfl) (Nat.le_of_ble_eq_true (by kernel_rfl)) (by kernel_rfl) (by rfl) ?_)); clear hA ac hW; intro w35 hW ac hA
     refine wpListIn_nil ?_
     refine thenN ?_
     refine wpIn_block ?_
     refine wpIn_loop_rounds 3 ?_
     rw [roundsIn_succ]
     refine wpIn_seq ?_
     refine wpIn_seq ?_
     refine wpIn_region_lit ?_
     refine st_rdF (v := Value.int .i64 0) hA (by kernel_rfl) (by kernel_rfl) (by kernel_rfl) (by kernel_rfl) hW.cls (Rd.load (b := b33) (i := 0) (by kernel_rfl) (fun _ hw => (hw.1).cel 0 rfl) (by kernel_rfl)) ?_; clear hA ac; intro ac hA
     refine st_rdF (v := Value.bool true) hA (by kernel_rfl) (by kernel_rfl) (by kernel_rfl) (by kernel_rfl) hW.cls (Rd.pure fun _ => by kernel_rfl) ?_; clear hA ac; intro ac hA
     refine wpListIn_nil ?_
     refine thenN ?_
     refine wpIn_cond_true (hA.eval (by kernel_rfl)) ?_
     refine wpIn_skip ?_
     refine thenN ?_
     refine wpIn_seq ?_
     refine wpIn_block ?_
     refine wpIn_seq ?_
     refine wpIn_region_lit ?_
     refine stF hA (by kernel_rfl) (by kernel_rfl) (by kernel_rfl) (by kernel_rfl) (RunsF.of (Runs.cells (fun b => Value.pointer (some ⟨b, 0, none⟩)) #[Value.int .i64 0] 3 (fun _ => by kernel_rfl) hW ?_)); clear hA ac hW; intro b36 w37 hW hb36 hfw37 ac hA
     refine stF hA (by kernel_rfl) (by kernel_rfl) (by kernel_rfl) (by kernel_rfl) (RunsF.of (Runs.store (v := Value.int .i64 0) (b := b36) (j := 0) (n := 1) (cs' := #[Value.int .i64 0]) (H' := [Cel b36 #[Value.int .i64 0] 3, Cel b33 #[Value.int .i64 0] 3, Cel b30 #[Value.slice Ao28 (g27).length co29] 22, Cel b16 #[Value.slice Ao13 (n12).length co14] 38, MemR n9 n10 u25, Cel b3 #[Value.bool false] 4, Cel b1 #[Value.int .i64 many] 3]) (by kernel_rfl) (by kernel_rfl) (by kernel_rfl) (by kernel_rfl) (by kernel_rfl) hW 0 (by rfl) (Nat.le_of_ble_eq_true (by kernel_rfl)) (by kernel_rfl) (by rfl) ?_)); clear hA ac hW; intro w38 hW ac hA
     refine wpListIn_nil ?_
     refine thenN ?_
     refine wpIn_seq ?_
     refine wpIn_seq ?_
     refine wpIn_region_lit ?_
     refine st_rdF (v := Value.func (.func 35) #[] lb20) hA (by kernel_rfl) (by kernel_rfl) (by kernel_rfl) (by kernel_rfl) hW.cls (Rd.pure fun _ => by kernel_rfl) ?_; clear hA ac; intro ac hA
     refine wpListIn_nil ?_
     refine thenN ?_
     refine wpIn_block ?_
     have hW := hW.share 6 rfl (H' := [Cel b36 #[Value.int .i64 0] 3, Cel b33 #[Value.int .i64 0] 3, Cel b30 #[Value.slice Ao28 (g27).length co29] 22, Cel b16 #[Value.slice Ao13 (n12).length co14] 38, MemR n9 n10 u25, Cel b3 #[Value.bool false] 4]) rfl
     have hW := hW.share 2 rfl (H' := [Cel b36 #[Value.int .i64 0] 3, Cel b33 #[Value.int .i64 0] 3, Cel b16 #[Value.slice Ao13 (n12).length co14] 38, MemR n9 n10 u25, Cel b3 #[Value.bool false] 4]) rfl
     have hW := hW.share 1 rfl (H' := [Cel b36 #[Value.int .i64 0] 3, Cel b16 #[Value.slice Ao13 (n12).length co14] 38, MemR n9 n10 u25, Cel b3 #[Value.bool false] 4]) rfl
     refine wp_range (encs := (fun x_ : Cell6 => #[Value.int .u32 x_.addr, Value.int .u32 x_.word])) (Sx := (fun l_ : List Cell6 => ∃ ks : List Int, ks.Perm (keys (vals n11)) ∧ (ks.Pairwise fun x y => x ≤ y) ∧ l_ = cellsOf (vals n11) (frm) ks)) hA (by kernel_rfl) (by kernel_rfl) (enters_of Try.func35 (by kernel_rfl) rfl) (by kernel_rfl) (fun _ => rfl) hIg21 (List.forall_mem_singleton.2 (List.mem_of_getElem? (i := 6) rfl)) (fun pre_ H_ => ∃ n0 : Int, True ∧ (n0 = (pre_.length : Nat)) ∧ (n0 = 0 ∨ n0 < many) ∧ H_ = [Cel b36 #[Value.int .i64 n0] 3]) (fun c_ _ H_ => (c_ = .exit 2 ∧ ∃ n0 : Int, (n0 ≤ g27.length ∧ n0 ≥ many ∧ 1 ≤ n0 ∧ (n0 = 1 ∨ n0 ≤ many)) ∧ H_ = [Cel b36 #[Value.int .i64 n0] 3])) (H := [Cel b36 #[Value.int .i64 0] 3]) (K := [Cel b16 #[Value.slice Ao13 (n12).length co14] 38, MemR n9 n10 u25, Cel b3 #[Value.bool false] 4]) (hW.pick [0, 1, 2, 3] (by decide) rfl) ⟨0, trivial, by rfl, by omega, rfl⟩ ?_ ?_ ?_
     · skip
       clear hA ac hW; intro l_39 rd_39 bs_39 pre_ x_ Hk_ w40 T_39 ac hrd_39 hbs_39 hbr_39 hok_ hJ_ hA hW hB_39 hT_39
       obtain ⟨n0, _, hn, hm, rfl⟩ := hJ_
       obtain ⟨y41, h_⟩ : ∃ y_, y_ = x_ := ⟨_, rfl⟩; subst h_
       replace hA : Fm 103 [] [(0, Value.slice A_l l.length c_l), (1, Value.int .u32 frm), (2, Value.int .i64 many), (5, Value.pointer (some ⟨b1, 0, none⟩)), (6, Value.pointer (some ⟨b3, 0, none⟩)), (7, Value.pointer (some ⟨n9, 0, none⟩)), (8, Value.pointer (some ⟨b16, 0, none⟩)), (9, Value.func (.func 35) #[] lb20), (10, Value.pointer (some ⟨b30, 0, none⟩)), (11, Value.pointer (some ⟨b33, 0, none⟩)), (12, Value.pointer (some ⟨b36, 0, none⟩)), (15, Value.slice A_l l.length c_l), (16, Value.int .i64 ((l.length : Nat) : Int)), (17, Value.bool (decide ((((l.length : Nat) : Int) : Int) > (30 : Int)))), (19, Value.tuple #[Value.pointer (some ⟨n9, 0, none⟩), Value.agg #[Value.slice Ao13 (n12).length co14]]), (20, Value.slice A_l l.length c_l), (21, Value.tuple #[Value.pointer (some ⟨n9, 0, none⟩), Value.agg #[Value.slice Ao13 (n12).length co14]]), (22, Value.pointer (some ⟨n9, 0, none⟩)), (23, Value.agg #[Value.slice Ao13 (n12).length co14]), (24, Value.pointer (some ⟨n9, 0, none⟩)), (25, Value.int .u32 frm), (26, Value.func (.func 35) #[] lb20), (27, Value.func (.func 35) #[] lb20), (28, Value.bool false), (29, Value.bool false), (30, Value.pointer (some ⟨n9, 0, none⟩)), (31, Value.int .u32 frm), (32, Value.agg #[Value.int .u32 frm, Value.int .u32 9]), (33, Value.agg #[Value.int .u32 4294967295, Value.int .u32 8]), (34, Value.slice (some ⟨b22, 0, none⟩) 2 2), (35, Value.int .i64 0), (36, Value.int .i64 0), (37, Value.bool false), (38, Value.bool false), (39, Value.agg #[Value.slice Ao13 (n12).length co14]), (40, Value.int .u32 frm), (41, Value.slice Ao28 (g27).length co29), (42, Value.int .i64 0), (43, Value.bool true), (46, Value.func (.func 35) #[] lb20), (47, Value.int .u32 y41.addr), (48, Value.int .u32 y41.word)] ac := hA.sub ⟨⟨by kernel_rfl, by kernel_rfl⟩, ⟨by kernel_rfl, by kernel_rfl⟩, ⟨by kernel_rfl, by kernel_rfl⟩, ⟨by kernel_rfl, by kernel_rfl⟩, ⟨by kernel_rfl, by kernel_rfl⟩, ⟨by kernel_rfl, by kernel_rfl⟩, ⟨by kernel_rfl, by kernel_rfl⟩, ⟨by kernel_rfl, by kernel_rfl⟩, ⟨by kernel_rfl, by kernel_rfl⟩, ⟨by kernel_rfl, by kernel_rfl⟩, ⟨by kernel_rfl, by kernel_rfl⟩, ⟨by kernel_rfl, by kernel_rfl⟩, ⟨by kernel_rfl, by kernel_rfl⟩, ⟨by kernel_rfl, by kernel_rfl⟩, ⟨by kernel_rfl, by kernel_rfl⟩, ⟨by kernel_rfl, by kernel_rfl⟩, ⟨by kernel_rfl, by kernel_rfl⟩, ⟨by kernel_rfl, by kernel_rfl⟩, ⟨by kernel_rfl, by kernel_rfl⟩, ⟨by kernel_rfl, by kernel_rfl⟩, ⟨by kernel_rfl, by kernel_rfl⟩, ⟨by kernel_rfl, by kernel_rfl⟩, ⟨by kernel_rfl, by kernel_rfl⟩, ⟨by kernel_rfl, by kernel_rfl⟩, ⟨by kernel_rfl, by kernel_rfl⟩, ⟨by kernel_rfl, by kernel_rfl⟩, ⟨by kernel_rfl, by kernel_rfl⟩, ⟨by kernel_rfl, by kernel_rfl⟩, ⟨by kernel_rfl, by kernel_rfl⟩, ⟨by kernel_rfl, by kernel_rfl⟩, ⟨by kernel_rfl, by kernel_rfl⟩, ⟨by kernel_rfl, by kernel_rfl⟩, ⟨by kernel_rfl, by kernel_rfl⟩, ⟨by kernel_rfl, by kernel_rfl⟩, ⟨by kernel_rfl, by kernel_rfl⟩, ⟨by kernel_rfl, by kernel_rfl⟩, ⟨by kernel_rfl, by kernel_rfl⟩, ⟨by kernel_rfl, by kernel_rfl⟩, ⟨by kernel_rfl, by kernel_rfl⟩, ⟨by kernel_rfl, by kernel_rfl⟩, ⟨by kernel_rfl, by kernel_rfl⟩, ⟨by kernel_rfl, by kernel_rfl⟩, trivial⟩
       have he_ := hw8_hR.comes hok_; rw [← hw26_hF] at he_; have hlt_ := (List.getElem?_eq_some_iff.1 he_).1; have hll_ : g27.length ≤ n12.length := by rw [hw26_hF]; exact fromM_len _ _
       refine wpIn_seq ?_
       refine wpIn_region_lit ?_
       refine st_rdF (v := Value.int .u32 y41.addr) hA (by kernel_rfl) (by kernel_rfl) (by kernel_rfl) (by kernel_rfl) hW.cls (Rd.pure fun _ => by kernel_rfl) ?_; clear hA ac; intro ac hA
       refine wpListIn_nil ?_
       refine thenN ?_
       refine wpIn_region_lit ?_
       refine st_rdF (v := Value.int .u32 y41.word) hA (by kernel_rfl) (by kernel_rfl) (by kernel_rfl) (by kernel_rfl) hW.cls (Rd.pure fun _ => by kernel_rfl) ?_; clear hA ac; intro ac hA
       refine wpListIn_nil ?_
       refine thenN ?_
       refine begun (bs := bs_39) (H' := [bs_39, Cel b36 #[Value.int .i64 n0] 3]) hW 0 rfl (fun b hb => by rw [hbs_39] at hb; rw [hrd_39]; exact hb) rfl ?_; clear hW; intro w42 hW
       refine wpIn_block ?_
       refine wpIn_seq ?_
       refine wpIn_seq ?_
       refine wpIn_region_lit ?_
       refine st_rdF (v := Value.int .i64 n0) hA (by kernel_rfl) (by kernel_rfl) (by kernel_rfl) (by kernel_rfl) hW.cls (Rd.load (b := b36) (i := 0) (by kernel_rfl) (fun _ hw => (hw.1).cel 1 rfl) (by kernel_rfl)) ?_; clear hA ac; intro ac hA
       refine st_rdF (v := Value.slice Ao28 (g27).length co29) hA (by kernel_rfl) (by kernel_rfl) (by kernel_rfl) (by kernel_rfl) hW.cls (Rd.load (b := b30) (i := 0) (by kernel_rfl) (fun _ hw => show _ = _ from (hw.1).getG 1 rfl) (by kernel_rfl)) ?_; clear hA ac; intro ac hA
       refine st_rdF (v := Value.int .i64 (((g27).length : Nat) : Int)) hA (by kernel_rfl) (by kernel_rfl) (by kernel_rfl) (by kernel_rfl) hW.cls (Rd.pure fun _ => by kernel_rfl) ?_; clear hA ac; intro ac hA
       refine st_rdF (v := Value.bool (decide ((n0 : Int) ≥ ((((g27).length : Nat) : Int) : Int)))) hA (by kernel_rfl) (by kernel_rfl) (by kernel_rfl) (by kernel_rfl) hW.cls (Rd.pure fun _ => by kernel_rfl) ?_; clear hA ac; intro ac hA
       refine st_rdF (v := Value.bool (decide ((n0 : Int) ≥ ((((g27).length : Nat) : Int) : Int)))) hA (by kernel_rfl) (by kernel_rfl) (by kernel_rfl) (by kernel_rfl) hW.cls (Rd.pure fun _ => by kernel_rfl) ?_; clear hA ac; intro ac hA
       rcases Bool.eq_false_or_eq_true (decide ((n0 : Int) ≥ ((((g27).length : Nat) : Int) : Int))) with h43 | h43
       · skip
         rw [h43] at hA
         have h43 := of_decide_eq_true h43
         first
         | (exfalso; clear hA hW; omega)
         | (
           fail)
       · skip
         rw [h43] at hA
         have h43 := of_decide_eq_false h43
         first
         | (exfalso; clear hA hW; omega)
         | (
           refine st_rdF (v := Value.int .u32 y41.addr) hA (by kernel_rfl) (by kernel_rfl) (by kernel_rfl) (by kernel_rfl) hW.cls (Rd.pure fun _ => by kernel_rfl) ?_; clear hA ac; intro ac hA
           refine st_rdF (v := Value.slice Ao28 (g27).length co29) hA (by kernel_rfl) (by kernel_rfl) (by kernel_rfl) (by kernel_rfl) hW.cls (Rd.load (b := b30) (i := 0) (by kernel_rfl) (fun _ hw => show _ = _ from (hw.1).getG 1 rfl) (by kernel_rfl)) ?_; clear hA ac; intro ac hA
           refine st_rdF (v := Value.int .i64 n0) hA (by kernel_rfl) (by kernel_rfl) (by kernel_rfl) (by kernel_rfl) hW.cls (Rd.load (b := b36) (i := 0) (by kernel_rfl) (fun _ hw => (hw.1).cel 1 rfl) (by kernel_rfl)) ?_; clear hA ac; intro ac hA
           obtain ⟨y44, hy44⟩ : ∃ y, g27[Int.toNat (n0)]? = some y := ⟨_, List.getElem?_eq_getElem (by first | omega | (simp; done) | (simp; omega))⟩
           obtain ⟨b45, o46, rfl, hbb45⟩ := row_some ((hW).getG 3 rfl) hy44
           refine st_rdF (v := Value.pointer (some ⟨b45, o46 + (Int.toNat (n0)) * 2, none⟩)) hA (by kernel_rfl) (by kernel_rfl) (by kernel_rfl) (by kernel_rfl) hW.cls (Rd.indexAddrI (e := 30) (sz := 2) (b := b45) (off := o46) (n := (g27).length) (c := co29) (k := n0) (by kernel_rfl) (by kernel_rfl) (by omega) (by first | omega | (simp; done) | (simp; omega)) (fun _ => by kernel_rfl) (fun _ => by kernel_rfl)) ?_; clear hA ac; intro ac hA
           refine st_rdF (v := Value.pointer (some ⟨b45, o46 + (Int.toNat (n0)) * 2, none⟩)) hA (by kernel_rfl) (by kernel_rfl) (by kernel_rfl) (by kernel_rfl) hW.cls (Rd.pure fun _ => by kernel_rfl) ?_; clear hA ac; intro ac hA
           refine st_rdF (v := Value.int .u32 y44.addr) hA (by kernel_rfl) (by kernel_rfl) (by kernel_rfl) (by kernel_rfl) hW.cls (Rd.loadRow (b := b45) (i := o46 + (Int.toNat (n0)) * 2) (xs := [Value.int .u32 y44.addr]) (by kernel_rfl) (fun _ hw => row_ld ((hw.1).getG 3 rfl) hy44 (Fr.refl No _) (fun h => h) 0 1 (by kernel_rfl)) (by kernel_rfl)) ?_; clear hA ac; intro ac hA
           refine st_rdF (v := Value.bool ((y41.addr : Int) != (y44.addr : Int))) hA (by kernel_rfl) (by kernel_rfl) (by kernel_rfl) (by kernel_rfl) hW.cls (Rd.pure fun _ => by kernel_rfl) ?_; clear hA ac; intro ac hA
           refine st_rdF (v := Value.bool ((y41.addr : Int) != (y44.addr : Int))) hA (by kernel_rfl) (by kernel_rfl) (by kernel_rfl) (by kernel_rfl) hW.cls (Rd.pure fun _ => by kernel_rfl) ?_; clear hA ac; intro ac hA
           refine st_rdF (v := Value.bool ((y41.addr : Int) != (y44.addr : Int))) hA (by kernel_rfl) (by kernel_rfl) (by kernel_rfl) (by kernel_rfl) hW.cls (Rd.pure fun _ => by kernel_rfl) ?_; clear hA ac; intro ac hA
           rcases Bool.eq_false_or_eq_true ((y41.addr : Int) != (y44.addr : Int)) with h47 | h47
           · skip
             rw [h47] at hA
             have h47 := bne_iff_ne.1 h47
             first
             | (exfalso; clear hA hW; omega)
             | (exfalso; clear hA hW; have hye_ : y44 = y41 := Option.some.inj (hy44.symm.trans (by rw [show (Int.toNat (n0)) = pre_.length from by omega]; exact he_)); rw [hye_] at h47; first | exact h47 rfl | omega; done)
             | (
               fail)
           · skip
             rw [h47] at hA
             have h47 := of_bne_f h47
             first
             | (exfalso; clear hA hW; omega)
             | (exfalso; clear hA hW; have hye_ : y44 = y41 := Option.some.inj (hy44.symm.trans (by rw [show (Int.toNat (n0)) = pre_.length from by omega]; exact he_)); rw [hye_] at h47; first | exact h47 rfl | omega; done)
             | (
               refine st_rdF (v := Value.int .u32 y41.word) hA (by kernel_rfl) (by kernel_rfl) (by kernel_rfl) (by kernel_rfl) hW.cls (Rd.pure fun _ => by kernel_rfl) ?_; clear hA ac; intro ac hA
               refine st_rdF (v := Value.slice (some ⟨b45, o46, none⟩) (g27).length co29) hA (by kernel_rfl) (by kernel_rfl) (by kernel_rfl) (by kernel_rfl) hW.cls (Rd.load (b := b30) (i := 0) (by kernel_rfl) (fun _ hw => show _ = _ from (hw.1).getG 1 rfl) (by kernel_rfl)) ?_; clear hA ac; intro ac hA
               refine st_rdF (v := Value.int .i64 n0) hA (by kernel_rfl) (by kernel_rfl) (by kernel_rfl) (by kernel_rfl) hW.cls (Rd.load (b := b36) (i := 0) (by kernel_rfl) (fun _ hw => (hw.1).cel 1 rfl) (by kernel_rfl)) ?_; clear hA ac; intro ac hA
               refine st_rdF (v := Value.pointer (some ⟨b45, o46 + (Int.toNat (n0)) * 2, none⟩)) hA (by kernel_rfl) (by kernel_rfl) (by kernel_rfl) (by kernel_rfl) hW.cls (Rd.indexAddrI (e := 30) (sz := 2) (b := b45) (off := o46) (n := (g27).length) (c := co29) (k := n0) (by kernel_rfl) (by kernel_rfl) (by omega) (by first | omega | (simp; done) | (simp; omega)) (fun _ => by kernel_rfl) (fun _ => by kernel_rfl)) ?_; clear hA ac; intro ac hA
               refine st_rdF (v := Value.pointer (some ⟨b45, o46 + (Int.toNat (n0)) * 2 + 1, none⟩)) hA (by kernel_rfl) (by kernel_rfl) (by kernel_rfl) (by kernel_rfl) hW.cls (Rd.pure fun _ => by kernel_rfl) ?_; clear hA ac; intro ac hA
               refine st_rdF (v := Value.int .u32 y44.word) hA (by kernel_rfl) (by kernel_rfl) (by kernel_rfl) (by kernel_rfl) hW.cls (Rd.loadRow (b := b45) (i := o46 + (Int.toNat (n0)) * 2 + 1) (xs := [Value.int .u32 y44.word]) (by kernel_rfl) (fun _ hw => row_ld ((hw.1).getG 3 rfl) hy44 (Fr.refl No _) (fun h => h) 1 1 (by kernel_rfl)) (by kernel_rfl)) ?_; clear hA ac; intro ac hA
               refine st_rdF (v := Value.bool ((y41.word : Int) != (y44.word : Int))) hA (by kernel_rfl) (by kernel_rfl) (by kernel_rfl) (by kernel_rfl) hW.cls (Rd.pure fun _ => by kernel_rfl) ?_; clear hA ac; intro ac hA
               refine st_rdF (v := Value.bool ((y41.word : Int) != (y44.word : Int))) hA (by kernel_rfl) (by kernel_rfl) (by kernel_rfl) (by kernel_rfl) hW.cls (Rd.pure fun _ => by kernel_rfl) ?_; clear hA ac; intro ac hA
               refine wpListIn_nil ?_
               refine thenN ?_
               refine wpIn_cond_split (t := (y41.word : Int) != (y44.word : Int)) (hA.eval (by kernel_rfl)) (fun h48 => ?_) (fun h48 => ?_)
               · skip
                 have h48 := bne_iff_ne.1 h48
                 first
                 | (exfalso; clear hA hW; omega)
                 | (exfalso; clear hA hW; have hye_ : y44 = y41 := Option.some.inj (hy44.symm.trans (by rw [show (Int.toNat (n0)) = pre_.length from by omega]; exact he_)); rw [hye_] at h48; first | exact h48 rfl | omega; done)
                 | (
                   fail)
               · skip
                 have h48 := of_bne_f h48
                 first
                 | (exfalso; clear hA hW; omega)
                 | (exfalso; clear hA hW; have hye_ : y44 = y41 := Option.some.inj (hy44.symm.trans (by rw [show (Int.toNat (n0)) = pre_.length from by omega]; exact he_)); rw [hye_] at h48; first | exact h48 rfl | omega; done)
                 | (
                   refine wpIn_skip ?_
                   refine thenN ?_
                   refine wpIn_seq ?_
                   refine wpIn_region_lit ?_
                   refine st_rdF (v := Value.int .i64 n0) hA (by kernel_rfl) (by kernel_rfl) (by kernel_rfl) (by kernel_rfl) hW.cls (Rd.load (b := b36) (i := 0) (by kernel_rfl) (fun _ hw => (hw.1).cel 1 rfl) (by kernel_rfl)) ?_; clear hA ac; intro ac hA
                   refine st_rdF (v := Value.int .i64 ((n0 : Int) + 1)) hA (by kernel_rfl) (by kernel_rfl) (by kernel_rfl) (by kernel_rfl) hW.cls (Rd.pureE (v0 := Value.int .i64 (IntKind.i64.wrap ((n0 : Int) + 1))) (fun _ => by kernel_rfl) (congrArg (Value.int .i64) ((w_i64 (x := (n0 : Int) + 1) (by omega) (by omega)).trans (by omega)))) ?_; clear hA ac; intro ac hA
                   refine stF hA (by kernel_rfl) (by kernel_rfl) (by kernel_rfl) (by kernel_rfl) (RunsF.of (Runs.store (v := Value.int .i64 ((n0 : Int) + 1)) (b := b36) (j := 0) (n := 1) (cs' := #[Value.int .i64 ((n0 : Int) + 1)]) (H' := [bs_39, Cel b36 #[Value.int .i64 ((n0 : Int) + 1)] 3]) (by kernel_rfl) (by kernel_rfl) (by kernel_rfl) (by kernel_rfl) (by kernel_rfl) hW 1 (by rfl) (Nat.le_of_ble_eq_true (by kernel_rfl)) (by kernel_rfl) (by rfl) ?_)); clear hA ac hW; intro w49 hW ac hA
                   refine wpListIn_nil ?_
                   refine thenN ?_
                   refine wpIn_seq ?_
                   refine wpIn_region_lit ?_
                   refine st_rdF (v := Value.int .i64 0) hA (by kernel_rfl) (by kernel_rfl) (by kernel_rfl) (by kernel_rfl) hW.cls (Rd.load (b := b33) (i := 0) (by kernel_rfl) (fun _ hw => show _ = _ from (hw.1).getG 0 rfl) (by kernel_rfl)) ?_; clear hA ac; intro ac hA
                   refine st_rdF (v := Value.bool true) hA (by kernel_rfl) (by kernel_rfl) (by kernel_rfl) (by kernel_rfl) hW.cls (Rd.pure fun _ => by kernel_rfl) ?_; clear hA ac; intro ac hA
                   refine st_rdF (v := Value.bool true) hA (by kernel_rfl) (by kernel_rfl) (by kernel_rfl) (by kernel_rfl) hW.cls (Rd.pure fun _ => by kernel_rfl) ?_; clear hA ac; intro ac hA
                   refine st_rdF (v := Value.int .i64 ((n0 : Int) + 1)) hA (by kernel_rfl) (by kernel_rfl) (by kernel_rfl) (by kernel_rfl) hW.cls (Rd.load (b := b36) (i := 0) (by kernel_rfl) (fun _ hw => (hw.1).cel 1 rfl) (by kernel_rfl)) ?_; clear hA ac; intro ac hA
                   refine st_rdF (v := Value.int .i64 many) hA (by kernel_rfl) (by kernel_rfl) (by kernel_rfl) (by kernel_rfl) hW.cls (Rd.load (b := b1) (i := 0) (by kernel_rfl) (fun _ hw => show _ = _ from (hw.1).getG 2 rfl) (by kernel_rfl)) ?_; clear hA ac; intro ac hA
                   refine st_rdF (v := Value.bool (decide (((n0 : Int) + 1 : Int) ≥ (many : Int)))) hA (by kernel_rfl) (by kernel_rfl) (by kernel_rfl) (by kernel_rfl) hW.cls (Rd.pure fun _ => by kernel_rfl) ?_; clear hA ac; intro ac hA
                   refine st_rdF (v := Value.bool (decide (((n0 : Int) + 1 : Int) ≥ (many : Int)))) hA (by kernel_rfl) (by kernel_rfl) (by kernel_rfl) (by kernel_rfl) hW.cls (Rd.pure fun _ => by kernel_rfl) ?_; clear hA ac; intro ac hA
                   refine wpListIn_nil ?_
                   refine thenN ?_
                   refine wpIn_cond_split (t := decide (((n0 : Int) + 1 : Int) ≥ (many : Int))) (hA.eval (by kernel_rfl)) (fun h50 => ?_) (fun h50 => ?_)
                   · skip
                     have h50 := of_decide_eq_true h50
                     first
                     | (exfalso; clear hA hW; omega)
                     | (exfalso; clear hA hW; have hye_ : y44 = y41 := Option.some.inj (hy44.symm.trans (by rw [show (Int.toNat (n0)) = pre_.length from by omega]; exact he_)); rw [hye_] at h50; first | exact h50 rfl | omega; done)
                     | (
                       refine wpIn_exit ?_
                       refine blkY (by kernel_rfl) ?_
                       exact ⟨_, ⟨rfl, (n0 : Int) + 1, by omega, rfl⟩, (hW.pick [0, 1] (by decide) rfl).pickG [0, 1, 2, 3, 4, 5, 6, 7, 8] rfl⟩)
                   · skip
                     have h50 := of_decide_eq_false h50
                     first
                     | (exfalso; clear hA hW; omega)
                     | (exfalso; clear hA hW; have hye_ : y44 = y41 := Option.some.inj (hy44.symm.trans (by rw [show (Int.toNat (n0)) = pre_.length from by omega]; exact he_)); rw [hye_] at h50; first | exact h50 rfl | omega; done)
                     | (
                       refine wpIn_skip ?_
                       refine blkN ?_
                       exact ⟨_, ⟨(n0 : Int) + 1, trivial, by simp; omega, by omega, rfl⟩, (hW.pick [0, 1] (by decide) rfl).pickG [0, 1, 2, 3, 4, 5, 6, 7, 8] rfl⟩))))
     · skip
       clear hA ac hW; intro D51 pre_ Hk_ w52 ac hS_ hJ_ hA hW
       obtain ⟨n0, _, hn, hm, rfl⟩ := hJ_
       replace hW : Ws w No [Cel b36 #[Value.int .i64 n0] 3, DefR D51, Cel b16 #[Value.slice Ao13 (n12).length co14] 38, MemR n9 n10 u25, Cel b3 #[Value.bool false] 4] [Cel b33 #[Value.int .i64 0] 3, Cel b30 #[Value.slice Ao28 (g27).length co29] 22, Cel b1 #[Value.int .i64 many] 3, roR Ao28 2 enCell6 g27, roR (some ⟨b22, 0, none⟩) 2 enCell6 ([(⟨frm, 9⟩ : Cell6), (⟨4294967295, 8⟩ : Cell6)] : List Cell6), Cel b22 #[Value.int .u32 frm, Value.int .u32 9, Value.int .u32 4294967295, Value.int .u32 8] 30, g21, roR Ao13 2 enCell6 n12, roR A_l 2 enCell6 l] w52 := hW
       have hall_ : pre_.length = g27.length := by obtain ⟨ks_, h1_, h2_, h3_⟩ := hS_; rw [h3_, hw8_hR.cells h1_ h2_, ← hw26_hF]
       refine blkN ?_
       refine thenN ?_
       refine wpIn_seq ?_
       refine wpIn_region_lit ?_
       refine st_rdF (v := Value.int .i64 0) hA (by kernel_rfl) (by kernel_rfl) (by kernel_rfl) (by kernel_rfl) hW.cls (Rd.load (b := b33) (i := 0) (by kernel_rfl) (fun _ hw => show _ = _ from (hw.1).getG 0 rfl) (by kernel_rfl)) ?_; clear hA ac; intro ac hA
       refine st_rdF (v := Value.bool true) hA (by kernel_rfl) (by kernel_rfl) (by kernel_rfl) (by kernel_rfl) hW.cls (Rd.pure fun _ => by kernel_rfl) ?_; clear hA ac; intro ac hA
       refine st_rdF (v := Value.bool true) hA (by kernel_rfl) (by kernel_rfl) (by kernel_rfl) (by kernel_rfl) hW.cls (Rd.pure fun _ => by kernel_rfl) ?_; clear hA ac; intro ac hA
       refine st_rdF (v := Value.int .i64 n0) hA (by kernel_rfl) (by kernel_rfl) (by kernel_rfl) (by kernel_rfl) hW.cls (Rd.load (b := b36) (i := 0) (by kernel_rfl) (fun _ hw => (hw.1).cel 0 rfl) (by kernel_rfl)) ?_; clear hA ac; intro ac hA
       refine st_rdF (v := Value.slice Ao28 (g27).length co29) hA (by kernel_rfl) (by kernel_rfl) (by kernel_rfl) (by kernel_rfl) hW.cls (Rd.load (b := b30) (i := 0) (by kernel_rfl) (fun _ hw => show _ = _ from (hw.1).getG 1 rfl) (by kernel_rfl)) ?_; clear hA ac; intro ac hA
       refine st_rdF (v := Value.int .i64 (((g27).length : Nat) : Int)) hA (by kernel_rfl) (by kernel_rfl) (by kernel_rfl) (by kernel_rfl) hW.cls (Rd.pure fun _ => by kernel_rfl) ?_; clear hA ac; intro ac hA
       refine st_rdF (v := Value.int .i64 many) hA (by kernel_rfl) (by kernel_rfl) (by kernel_rfl) (by kernel_rfl) hW.cls (Rd.load (b := b1) (i := 0) (by kernel_rfl) (fun _ hw => show _ = _ from (hw.1).getG 2 rfl) (by kernel_rfl)) ?_; clear hA ac; intro ac hA
       refine st_rdF (v := Value.int .i64 (max (1 : Int) (many : Int))) hA (by kernel_rfl) (by kernel_rfl) (by kernel_rfl) (by kernel_rfl) hW.cls (Rd.pureE (v0 := Value.int .i64 (if (many : Int) > (1 : Int) then (many : Int) else (1 : Int))) (fun _ => by kernel_rfl) (congrArg (Value.int .i64) (max_ _ _))) ?_; clear hA ac; intro ac hA
       refine st_rdF (v := Value.int .i64 (min ((((g27).length : Nat) : Int) : Int) (max (1 : Int) (many : Int) : Int))) hA (by kernel_rfl) (by kernel_rfl) (by kernel_rfl) (by kernel_rfl) hW.cls (Rd.pureE (v0 := Value.int .i64 (if (max (1 : Int) (many : Int) : Int) < ((((g27).length : Nat) : Int) : Int) then (max (1 : Int) (many : Int) : Int) else ((((g27).length : Nat) : Int) : Int))) (fun _ => by kernel_rfl) (congrArg (Value.int .i64) (min_ _ _))) ?_; clear hA ac; intro ac hA
       refine st_rdF (v := Value.bool ((n0 : Int) != (min ((((g27).length : Nat) : Int) : Int) (max (1 : Int) (many : Int) : Int) : Int))) hA (by kernel_rfl) (by kernel_rfl) (by kernel_rfl) (by kernel_rfl) hW.cls (Rd.pure fun _ => by kernel_rfl) ?_; clear hA ac; intro ac hA
       refine st_rdF (v := Value.bool ((n0 : Int) != (min ((((g27).length : Nat) : Int) : Int) (max (1 : Int) (many : Int) : Int) : Int))) hA (by kernel_rfl) (by kernel_rfl) (by kernel_rfl) (by kernel_rfl) hW.cls (Rd.pure fun _ => by kernel_rfl) ?_; clear hA ac; intro ac hA
       refine st_rdF (v := Value.bool ((n0 : Int) != (min ((((g27).length : Nat) : Int) : Int) (max (1 : Int) (many : Int) : Int) : Int))) hA (by kernel_rfl) (by kernel_rfl) (by kernel_rfl) (by kernel_rfl) hW.cls (Rd.pure fun _ => by kernel_rfl) ?_; clear hA ac; intro ac hA
       rcases Bool.eq_false_or_eq_true ((n0 : Int) != (min ((((g27).length : Nat) : Int) : Int) (max (1 : Int) (many : Int) : Int) : Int)) with h53 | h53
       · skip
         rw [h53] at hA
         have h53 := bne_iff_ne.1 h53
         first
         | (exfalso; clear hA hW; omega)
         | (
           refine st_skipF hA (by kernel_rfl) (by kernel_rfl) ?_; clear hA ac; intro ac hA
           refine st_skipF hA (by kernel_rfl) (by kernel_rfl) ?_; clear hA ac; intro ac hA
           refine st_skipF hA (by kernel_rfl) (by kernel_rfl) ?_; clear hA ac; intro ac hA
           refine st_skipF hA (by kernel_rfl) (by kernel_rfl) ?_; clear hA ac; intro ac hA
           refine st_skipF hA (by kernel_rfl) (by kernel_rfl) ?_; clear hA ac; intro ac hA
           refine st_skipF hA (by kernel_rfl) (by kernel_rfl) ?_; clear hA ac; intro ac hA
           refine st_skipF hA (by kernel_rfl) (by kernel_rfl) ?_; clear hA ac; intro ac hA
           refine st_skipF hA (by kernel_rfl) (by kernel_rfl) ?_; clear hA ac; intro ac hA
           refine st_rdF (v := Value.bool true) hA (by kernel_rfl) (by kernel_rfl) (by kernel_rfl) (by kernel_rfl) hW.cls (Rd.pure fun _ => by kernel_rfl) ?_; clear hA ac; intro ac hA
           refine wpListIn_nil ?_
           refine thenN ?_
           refine wpIn_cond_true (hA.eval (by kernel_rfl)) ?_
           refine wpIn_seq ?_
           refine wpIn_region_lit ?_
           refine stF hA (by kernel_rfl) (by kernel_rfl) (by kernel_rfl) (by kernel_rfl) (RunsF.of (Runs.store (v := Value.bool false) (b := b3) (j := 0) (n := 1) (cs' := #[Value.bool false]) (H' := [Cel b36 #[Value.int .i64 n0] 3, DefR D51, Cel b16 #[Value.slice Ao13 (n12).length co14] 38, MemR n9 n10 u25, Cel b3 #[Value.bool false] 4]) (by kernel_rfl) (by kernel_rfl) (by kernel_rfl) (by kernel_rfl) (by kernel_rfl) hW 4 (by rfl) (Nat.le_of_ble_eq_true (by kernel_rfl)) (by kernel_rfl) (by rfl) ?_)); clear hA ac hW; intro w54 hW ac hA
           refine wpListIn_nil ?_
           refine thenN ?_
           refine wpIn_ret ?_
           refine blkR ?_
           refine thenR ?_
           refine thenR ?_
           refine blkR ?_
           refine thenR ?_
           refine retF (.inl rfl) hA ?_
           refine leaveD (H' := [Cel b36 #[Value.int .i64 n0] 3, Cel b16 #[Value.slice Ao13 (n12).length co14] 38, MemR n9 n10 u25, Cel b3 #[Value.bool false] 4]) hW 1 rfl rfl ?_; clear hW; intro w55 hW
           refine leave1 (v := Value.bool false) (by rfl) (GotF.cell (b := b3) (i := 0) hA (by kernel_rfl) (by kernel_rfl) (hW.cel 3 rfl) (by kernel_rfl)) ?_
           clear hA
           exact ⟨retv (by rfl), hW.fr⟩)
       · skip
         rw [h53] at hA
         have h53 := of_bne_f h53
         first
         | (exfalso; clear hA hW; omega)
         | (
           refine st_rdF (v := Value.int .i64 0) hA (by kernel_rfl) (by kernel_rfl) (by kernel_rfl) (by kernel_rfl) hW.cls (Rd.load (b := b33) (i := 0) (by kernel_rfl) (fun _ hw => show _ = _ from (hw.1).getG 0 rfl) (by kernel_rfl)) ?_; clear hA ac; intro ac hA
           refine st_rdF (v := Value.bool false) hA (by kernel_rfl) (by kernel_rfl) (by kernel_rfl) (by kernel_rfl) hW.cls (Rd.pure fun _ => by kernel_rfl) ?_; clear hA ac; intro ac hA
           refine st_rdF (v := Value.bool false) hA (by kernel_rfl) (by kernel_rfl) (by kernel_rfl) (by kernel_rfl) hW.cls (Rd.pure fun _ => by kernel_rfl) ?_; clear hA ac; intro ac hA
           refine st_skipF hA (by kernel_rfl) (by kernel_rfl) ?_; clear hA ac; intro ac hA
           refine st_skipF hA (by kernel_rfl) (by kernel_rfl) ?_; clear hA ac; intro ac hA
           refine st_skipF hA (by kernel_rfl) (by kernel_rfl) ?_; clear hA ac; intro ac hA
           refine st_skipF hA (by kernel_rfl) (by kernel_rfl) ?_; clear hA ac; intro ac hA
           refine st_rdF (v := Value.bool false) hA (by kernel_rfl) (by kernel_rfl) (by kernel_rfl) (by kernel_rfl) hW.cls (Rd.pure fun _ => by kernel_rfl) ?_; clear hA ac; intro ac hA
           refine st_rdF (v := Value.bool false) hA (by kernel_rfl) (by kernel_rfl) (by kernel_rfl) (by kernel_rfl) hW.cls (Rd.pure fun _ => by kernel_rfl) ?_; clear hA ac; intro ac hA
           refine wpListIn_nil ?_
           refine thenN ?_
           refine wpIn_cond_false (hA.eval (by kernel_rfl)) ?_
           refine wpIn_skip ?_
           refine blkN ?_
           refine thenN ?_
           refine wpIn_seq ?_
           refine wpIn_seq ?_
           refine wpIn_region_lit ?_
           refine st_rdF (v := Value.int .i64 0) hA (by kernel_rfl) (by kernel_rfl) (by kernel_rfl) (by kernel_rfl) hW.cls (Rd.load (b := b33) (i := 0) (by kernel_rfl) (fun _ hw => show _ = _ from (hw.1).getG 0 rfl) (by kernel_rfl)) ?_; clear hA ac; intro ac hA
           refine wpListIn_nil ?_
           refine thenN ?_
           refine wpIn_region_lit ?_
           refine stF hA (by kernel_rfl) (by kernel_rfl) (by kernel_rfl) (by kernel_rfl) (RunsF.of (Runs.cells (fun b => Value.pointer (some ⟨b, 0, none⟩)) #[Value.int .i64 0] 3 (fun _ => by kernel_rfl) hW ?_)); clear hA ac hW; intro b56 w57 hW hb56 hfw57 ac hA
           refine stF hA (by kernel_rfl) (by kernel_rfl) (by kernel_rfl) (by kernel_rfl) (RunsF.of (Runs.store (v := Value.int .i64 0) (b := b56) (j := 0) (n := 1) (cs' := #[Value.int .i64 0]) (H' := [Cel b56 #[Value.int .i64 0] 3, Cel b36 #[Value.int .i64 n0] 3, DefR D51, Cel b16 #[Value.slice Ao13 (n12).length co14] 38, MemR n9 n10 u25, Cel b3 #[Value.bool false] 4]) (by kernel_rfl) (by kernel_rfl) (by kernel_rfl) (by kernel_rfl) (by kernel_rfl) hW 0 (by rfl) (Nat.le_of_ble_eq_true (by kernel_rfl)) (by kernel_rfl) (by rfl) ?_)); clear hA ac hW; intro w58 hW ac hA
           refine wpListIn_nil ?_
           refine thenN ?_
           refine wpIn_region_lit ?_
           refine st_rdF (v := Value.int .i64 0) hA (by kernel_rfl) (by kernel_rfl) (by kernel_rfl) (by kernel_rfl) hW.cls (Rd.load (b := b56) (i := 0) (by kernel_rfl) (fun _ hw => (hw.1).cel 0 rfl) (by kernel_rfl)) ?_; clear hA ac; intro ac hA
           refine st_rdF (v := Value.int .i64 1) hA (by kernel_rfl) (by kernel_rfl) (by kernel_rfl) (by kernel_rfl) hW.cls (Rd.pureE (v0 := Value.int .i64 (IntKind.i64.wrap ((0 : Int) + 1))) (fun _ => by kernel_rfl) (congrArg (Value.int .i64) ((w_i64 (x := (0 : Int) + 1) (by omega) (by omega)).trans (by omega)))) ?_; clear hA ac; intro ac hA
           refine stF hA (by kernel_rfl) (by kernel_rfl) (by kernel_rfl) (by kernel_rfl) (RunsF.of (Runs.store (v := Value.int .i64 1) (b := b56) (j := 0) (n := 1) (cs' := #[Value.int .i64 1]) (H' := [Cel b56 #[Value.int .i64 1] 3, Cel b36 #[Value.int .i64 n0] 3, DefR D51, Cel b16 #[Value.slice Ao13 (n12).length co14] 38, MemR n9 n10 u25, Cel b3 #[Value.bool false] 4]) (by kernel_rfl) (by kernel_rfl) (by kernel_rfl) (by kernel_rfl) (by kernel_rfl) hW 0 (by rfl) (Nat.le_of_ble_eq_true (by kernel_rfl)) (by kernel_rfl) (by rfl) ?_)); clear hA ac hW; intro w59 hW ac hA
           refine wpListIn_nil ?_
           refine thenN ?_
           rw [roundsIn_succ]
           refine wpIn_seq ?_
           refine wpIn_seq ?_
           refine wpIn_region_lit ?_
           refine st_rdF (v := Value.int .i64 1) hA (by kernel_rfl) (by kernel_rfl) (by kernel_rfl) (by kernel_rfl) hW.cls (Rd.load (b := b56) (i := 0) (by kernel_rfl) (fun _ hw => (hw.1).cel 0 rfl) (by kernel_rfl)) ?_; clear hA ac; intro ac hA
           refine st_rdF (v := Value.bool true) hA (by kernel_rfl) (by kernel_rfl) (by kernel_rfl) (by kernel_rfl) hW.cls (Rd.pure fun _ => by kernel_rfl) ?_; clear hA ac; intro ac hA
           refine wpListIn_nil ?_
           refine thenN ?_
           refine wpIn_cond_true (hA.eval (by kernel_rfl)) ?_
           refine wpIn_skip ?_
           refine thenN ?_
           refine wpIn_seq ?_
           refine wpIn_block ?_
           refine wpIn_seq ?_
           refine wpIn_region_lit ?_
           refine stF hA (by kernel_rfl) (by kernel_rfl) (by kernel_rfl) (by kernel_rfl) (RunsF.of (Runs.cells (fun b => Value.pointer (some ⟨b, 0, none⟩)) #[Value.int .i64 0] 3 (fun _ => by kernel_rfl) hW ?_)); clear hA ac hW; intro b60 w61 hW hb60 hfw61 ac hA
           refine stF hA (by kernel_rfl) (by kernel_rfl) (by kernel_rfl) (by kernel_rfl) (RunsF.of (Runs.store (v := Value.int .i64 0) (b := b60) (j := 0) (n := 1) (cs' := #[Value.int .i64 0]) (H' := [Cel b60 #[Value.int .i64 0] 3, Cel b56 #[Value.int .i64 1] 3, Cel b36 #[Value.int .i64 n0] 3, DefR D51, Cel b16 #[Value.slice Ao13 (n12).length co14] 38, MemR n9 n10 u25, Cel b3 #[Value.bool false] 4]) (by kernel_rfl) (by kernel_rfl) (by kernel_rfl) (by kernel_rfl) (by kernel_rfl) hW 0 (by rfl) (Nat.le_of_ble_eq_true (by kernel_rfl)) (by kernel_rfl) (by rfl) ?_)); clear hA ac hW; intro w62 hW ac hA
           refine wpListIn_nil ?_
           refine thenN ?_
           refine wpIn_seq ?_
           refine wpIn_seq ?_
           refine wpIn_region_lit ?_
           refine st_rdF (v := Value.func (.func 35) #[] lb20) hA (by kernel_rfl) (by kernel_rfl) (by kernel_rfl) (by kernel_rfl) hW.cls (Rd.pure fun _ => by kernel_rfl) ?_; clear hA ac; intro ac hA
           refine wpListIn_nil ?_
           refine thenN ?_
           refine wpIn_block ?_
           have hW := hW.share 1 rfl (H' := [Cel b60 #[Value.int .i64 0] 3, Cel b36 #[Value.int .i64 n0] 3, DefR D51, Cel b16 #[Value.slice Ao13 (n12).length co14] 38, MemR n9 n10 u25, Cel b3 #[Value.bool false] 4]) rfl
           refine wp_range (encs := (fun x_ : Cell6 => #[Value.int .u32 x_.addr, Value.int .u32 x_.word])) (Sx := (fun l_ : List Cell6 => ∃ ks : List Int, ks.Perm (keys (vals n11)) ∧ (ks.Pairwise fun x y => x ≤ y) ∧ l_ = cellsOf (vals n11) (frm) ks)) hA (by kernel_rfl) (by kernel_rfl) (enters_of Try.func35 (by kernel_rfl) rfl) (by kernel_rfl) (fun _ => rfl) hIg21 (List.forall_mem_singleton.2 (List.mem_of_getElem? (i := 7) rfl)) (fun pre_ H_ => ∃ n1 : Int, True ∧ (n1 = (pre_.length : Nat)) ∧ H_ = [Cel b60 #[Value.int .i64 n1] 3]) (fun _ _ _ => False) (H := [Cel b60 #[Value.int .i64 0] 3]) (K := [Cel b36 #[Value.int .i64 n0] 3, DefR D51, Cel b16 #[Value.slice Ao13 (n12).length co14] 38, MemR n9 n10 u25, Cel b3 #[Value.bool false] 4]) (hW.pick [0, 1, 2, 3, 4, 5] (by decide) rfl) ⟨0, trivial, by rfl, rfl⟩ ?_ ?_ ?_
           · skip
             clear hA ac hW; intro l_63 rd_63 bs_63 pre_ x_ Hk_ w64 T_63 ac hrd_63 hbs_63 hbr_63 hok_ hJ_ hA hW hB_63 hT_63
             obtain ⟨n1, _, hn, rfl⟩ := hJ_
             obtain ⟨y65, h_⟩ : ∃ y_, y_ = x_ := ⟨_, rfl⟩; subst h_
             replace hA : Fm 103 [] [(0, Value.slice A_l l.length c_l), (1, Value.int .u32 frm), (2, Value.int .i64 many), (5, Value.pointer (some ⟨b1, 0, none⟩)), (6, Value.pointer (some ⟨b3, 0, none⟩)), (7, Value.pointer (some ⟨n9, 0, none⟩)), (8, Value.pointer (some ⟨b16, 0, none⟩)), (9, Value.func (.func 35) #[] lb20), (10, Value.pointer (some ⟨b30, 0, none⟩)), (11, Value.pointer (some ⟨b56, 0, none⟩)), (12, Value.pointer (some ⟨b60, 0, none⟩)), (15, Value.slice A_l l.length c_l), (16, Value.int .i64 ((l.length : Nat) : Int)), (17, Value.bool (decide ((((l.length : Nat) : Int) : Int) > (30 : Int)))), (19, Value.tuple #[Value.pointer (some ⟨n9, 0, none⟩), Value.agg #[Value.slice Ao13 (n12).length co14]]), (20, Value.slice A_l l.length c_l), (21, Value.tuple #[Value.pointer (some ⟨n9, 0, none⟩), Value.agg #[Value.slice Ao13 (n12).length co14]]), (22, Value.pointer (some ⟨n9, 0, none⟩)), (23, Value.agg #[Value.slice Ao13 (n12).length co14]), (24, Value.pointer (some ⟨n9, 0, none⟩)), (25, Value.int .u32 frm), (26, Value.func (.func 35) #[] lb20), (27, Value.func (.func 35) #[] lb20), (28, Value.bool false), (29, Value.bool false), (30, Value.pointer (some ⟨n9, 0, none⟩)), (31, Value.int .u32 frm), (32, Value.agg #[Value.int .u32 frm, Value.int .u32 9]), (33, Value.agg #[Value.int .u32 4294967295, Value.int .u32 8]), (34, Value.slice (some ⟨b22, 0, none⟩) 2 2), (35, Value.int .i64 0), (36, Value.int .i64 0), (37, Value.bool false), (38, Value.bool false), (39, Value.agg #[Value.slice Ao13 (n12).length co14]), (40, Value.int .u32 frm), (41, Value.slice Ao28 (g27).length co29), (42, Value.int .i64 1), (43, Value.bool true), (44, Value.int .i64 0), (45, Value.int .i64 1), (46, Value.func (.func 35) #[] lb20), (47, Value.int .u32 y65.addr), (48, Value.int .u32 y65.word), (80, Value.int .i64 0), (81, Value.bool true), (82, Value.bool true), (83, Value.int .i64 n0), (84, Value.slice Ao28 (g27).length co29), (85, Value.int .i64 (((g27).length : Nat) : Int)), (86, Value.int .i64 many), (87, Value.int .i64 (max (1 : Int) (many : Int))), (88, Value.int .i64 (min ((((g27).length : Nat) : Int) : Int) (max (1 : Int) (many : Int) : Int))), (89, Value.bool false), (90, Value.bool false), (91, Value.bool false), (92, Value.int .i64 0), (93, Value.bool false), (94, Value.bool false), (99, Value.bool false), (100, Value.bool false), (101, Value.int .i64 0)] ac := hA.sub ⟨⟨by kernel_rfl, by kernel_rfl⟩, ⟨by kernel_rfl, by kernel_rfl⟩, ⟨by kernel_rfl, by kernel_rfl⟩, ⟨by kernel_rfl, by kernel_rfl⟩, ⟨by kernel_rfl, by kernel_rfl⟩, ⟨by kernel_rfl, by kernel_rfl⟩, ⟨by kernel_rfl, by kernel_rfl⟩, ⟨by kernel_rfl, by kernel_rfl⟩, ⟨by kernel_rfl, by kernel_rfl⟩, ⟨by kernel_rfl, by kernel_rfl⟩, ⟨by kernel_rfl, by kernel_rfl⟩, ⟨by kernel_rfl, by kernel_rfl⟩, ⟨by kernel_rfl, by kernel_rfl⟩, ⟨by kernel_rfl, by kernel_rfl⟩, ⟨by kernel_rfl, by kernel_rfl⟩, ⟨by kernel_rfl, by kernel_rfl⟩, ⟨by kernel_rfl, by kernel_rfl⟩, ⟨by kernel_rfl, by kernel_rfl⟩, ⟨by kernel_rfl, by kernel_rfl⟩, ⟨by kernel_rfl, by kernel_rfl⟩, ⟨by kernel_rfl, by kernel_rfl⟩, ⟨by kernel_rfl, by kernel_rfl⟩, ⟨by kernel_rfl, by kernel_rfl⟩, ⟨by kernel_rfl, by kernel_rfl⟩, ⟨by kernel_rfl, by kernel_rfl⟩, ⟨by kernel_rfl, by kernel_rfl⟩, ⟨by kernel_rfl, by kernel_rfl⟩, ⟨by kernel_rfl, by kernel_rfl⟩, ⟨by kernel_rfl, by kernel_rfl⟩, ⟨by kernel_rfl, by kernel_rfl⟩, ⟨by kernel_rfl, by kernel_rfl⟩, ⟨by kernel_rfl, by kernel_rfl⟩, ⟨by kernel_rfl, by kernel_rfl⟩, ⟨by kernel_rfl, by kernel_rfl⟩, ⟨by kernel_rfl, by kernel_rfl⟩, ⟨by kernel_rfl, by kernel_rfl⟩, ⟨by kernel_rfl, by kernel_rfl⟩, ⟨by kernel_rfl, by kernel_rfl⟩, ⟨by kernel_rfl, by kernel_rfl⟩, ⟨by kernel_rfl, by kernel_rfl⟩, ⟨by kernel_rfl, by kernel_rfl⟩, ⟨by kernel_rfl, by kernel_rfl⟩, ⟨by kernel_rfl, by kernel_rfl⟩, ⟨by kernel_rfl, by kernel_rfl⟩, ⟨by kernel_rfl, by kernel_rfl⟩, ⟨by kernel_rfl, by kernel_rfl⟩, ⟨by kernel_rfl, by kernel_rfl⟩, ⟨by kernel_rfl, by kernel_rfl⟩, ⟨by kernel_rfl, by kernel_rfl⟩, ⟨by kernel_rfl, by kernel_rfl⟩, ⟨by kernel_rfl, by kernel_rfl⟩, ⟨by kernel_rfl, by kernel_rfl⟩, ⟨by kernel_rfl, by kernel_rfl⟩, ⟨by kernel_rfl, by kernel_rfl⟩, ⟨by kernel_rfl, by kernel_rfl⟩, ⟨by kernel_rfl, by kernel_rfl⟩, ⟨by kernel_rfl, by kernel_rfl⟩, ⟨by kernel_rfl, by kernel_rfl⟩, ⟨by kernel_rfl, by kernel_rfl⟩, ⟨by kernel_rfl, by kernel_rfl⟩, ⟨by kernel_rfl, by kernel_rfl⟩, ⟨by kernel_rfl, by kernel_rfl⟩, trivial⟩
             have he_ := hw8_hR.comes hok_; rw [← hw26_hF] at he_; have hlt_ := (List.getElem?_eq_some_iff.1 he_).1; have hll_ : g27.length ≤ n12.length := by rw [hw26_hF]; exact fromM_len _ _
             refine wpIn_seq ?_
             refine wpIn_region_lit ?_
             refine st_rdF (v := Value.int .u32 y65.addr) hA (by kernel_rfl) (by kernel_rfl) (by kernel_rfl) (by kernel_rfl) hW.cls (Rd.pure fun _ => by kernel_rfl) ?_; clear hA ac; intro ac hA
             refine wpListIn_nil ?_
             refine thenN ?_
             refine wpIn_region_lit ?_
             refine st_rdF (v := Value.int .u32 y65.word) hA (by kernel_rfl) (by kernel_rfl) (by kernel_rfl) (by kernel_rfl) hW.cls (Rd.pure fun _ => by kernel_rfl) ?_; clear hA ac; intro ac hA
             refine wpListIn_nil ?_
             refine thenN ?_
             refine begun (bs := bs_63) (H' := [bs_63, Cel b60 #[Value.int .i64 n1] 3]) hW 0 rfl (fun b hb => by rw [hbs_63] at hb; rw [hrd_63]; exact hb) rfl ?_; clear hW; intro w66 hW
             refine wpIn_block ?_
             refine wpIn_seq ?_
             refine wpIn_seq ?_
             refine wpIn_region_lit ?_
             refine st_rdF (v := Value.int .i64 n1) hA (by kernel_rfl) (by kernel_rfl) (by kernel_rfl) (by kernel_rfl) hW.cls (Rd.load (b := b60) (i := 0) (by kernel_rfl) (fun _ hw => (hw.1).cel 1 rfl) (by kernel_rfl)) ?_; clear hA ac; intro ac hA
             refine st_rdF (v := Value.slice Ao28 (g27).length co29) hA (by kernel_rfl) (by kernel_rfl) (by kernel_rfl) (by kernel_rfl) hW.cls (Rd.load (b := b30) (i := 0) (by kernel_rfl) (fun _ hw => show _ = _ from (hw.1).getG 2 rfl) (by kernel_rfl)) ?_; clear hA ac; intro ac hA
             refine st_rdF (v := Value.int .i64 (((g27).length : Nat) : Int)) hA (by kernel_rfl) (by kernel_rfl) (by kernel_rfl) (by kernel_rfl) hW.cls (Rd.pure fun _ => by kernel_rfl) ?_; clear hA ac; intro ac hA
             refine st_rdF (v := Value.bool (decide ((n1 : Int) ≥ ((((g27).length : Nat) : Int) : Int)))) hA (by kernel_rfl) (by kernel_rfl) (by kernel_rfl) (by kernel_rfl) hW.cls (Rd.pure fun _ => by kernel_rfl) ?_; clear hA ac; intro ac hA
             refine st_rdF (v := Value.bool (decide ((n1 : Int) ≥ ((((g27).length : Nat) : Int) : Int)))) hA (by kernel_rfl) (by kernel_rfl) (by kernel_rfl) (by kernel_rfl) hW.cls (Rd.pure fun _ => by kernel_rfl) ?_; clear hA ac; intro ac hA
             rcases Bool.eq_false_or_eq_true (decide ((n1 : Int) ≥ ((((g27).length : Nat) : Int) : Int))) with h67 | h67
             · skip
               rw [h67] at hA
               have h67 := of_decide_eq_true h67
               first
               | (exfalso; clear hA hW; omega)
               | (
                 fail)
             · skip
               rw [h67] at hA
               have h67 := of_decide_eq_false h67
               first
               | (exfalso; clear hA hW; omega)
               | (
                 refine st_rdF (v := Value.int .u32 y65.addr) hA (by kernel_rfl) (by kernel_rfl) (by kernel_rfl) (by kernel_rfl) hW.cls (Rd.pure fun _ => by kernel_rfl) ?_; clear hA ac; intro ac hA
                 refine st_rdF (v := Value.slice Ao28 (g27).length co29) hA (by kernel_rfl) (by kernel_rfl) (by kernel_rfl) (by kernel_rfl) hW.cls (Rd.load (b := b30) (i := 0) (by kernel_rfl) (fun _ hw => show _ = _ from (hw.1).getG 2 rfl) (by kernel_rfl)) ?_; clear hA ac; intro ac hA
                 refine st_rdF (v := Value.int .i64 n1) hA (by kernel_rfl) (by kernel_rfl) (by kernel_rfl) (by kernel_rfl) hW.cls (Rd.load (b := b60) (i := 0) (by kernel_rfl) (fun _ hw => (hw.1).cel 1 rfl) (by kernel_rfl)) ?_; clear hA ac; intro ac hA
                 obtain ⟨y68, hy68⟩ : ∃ y, g27[Int.toNat (n1)]? = some y := ⟨_, List.getElem?_eq_getElem (by first | omega | (simp; done) | (simp; omega))⟩
                 obtain ⟨b69, o70, rfl, hbb69⟩ := row_some ((hW).getG 4 rfl) hy68
                 refine st_rdF (v := Value.pointer (some ⟨b69, o70 + (Int.toNat (n1)) * 2, none⟩)) hA (by kernel_rfl) (by kernel_rfl) (by kernel_rfl) (by kernel_rfl) hW.cls (Rd.indexAddrI (e := 30) (sz := 2) (b := b69) (off := o70) (n := (g27).length) (c := co29) (k := n1) (by kernel_rfl) (by kernel_rfl) (by omega) (by first | omega | (simp; done) | (simp; omega)) (fun _ => by kernel_rfl) (fun _ => by kernel_rfl)) ?_; clear hA ac; intro ac hA
                 refine st_rdF (v := Value.pointer (some ⟨b69, o70 + (Int.toNat (n1)) * 2, none⟩)) hA (by kernel_rfl) (by kernel_rfl) (by kernel_rfl) (by kernel_rfl) hW.cls (Rd.pure fun _ => by kernel_rfl) ?_; clear hA ac; intro ac hA
                 refine st_rdF (v := Value.int .u32 y68.addr) hA (by kernel_rfl) (by kernel_rfl) (by kernel_rfl) (by kernel_rfl) hW.cls (Rd.loadRow (b := b69) (i := o70 + (Int.toNat (n1)) * 2) (xs := [Value.int .u32 y68.addr]) (by kernel_rfl) (fun _ hw => row_ld ((hw.1).getG 4 rfl) hy68 (Fr.refl No _) (fun h => h) 0 1 (by kernel_rfl)) (by kernel_rfl)) ?_; clear hA ac; intro ac hA
                 refine st_rdF (v := Value.bool ((y65.addr : Int) != (y68.addr : Int))) hA (by kernel_rfl) (by kernel_rfl) (by kernel_rfl) (by kernel_rfl) hW.cls (Rd.pure fun _ => by kernel_rfl) ?_; clear hA ac; intro ac hA
                 refine st_rdF (v := Value.bool ((y65.addr : Int) != (y68.addr : Int))) hA (by kernel_rfl) (by kernel_rfl) (by kernel_rfl) (by kernel_rfl) hW.cls (Rd.pure fun _ => by kernel_rfl) ?_; clear hA ac; intro ac hA
                 refine st_rdF (v := Value.bool ((y65.addr : Int) != (y68.addr : Int))) hA (by kernel_rfl) (by kernel_rfl) (by kernel_rfl) (by kernel_rfl) hW.cls (Rd.pure fun _ => by kernel_rfl) ?_; clear hA ac; intro ac hA
                 rcases Bool.eq_false_or_eq_true ((y65.addr : Int) != (y68.addr : Int)) with h71 | h71
                 · skip
                   rw [h71] at hA
                   have h71 := bne_iff_ne.1 h71
                   first
                   | (exfalso; clear hA hW; omega)
                   | (exfalso; clear hA hW; have hye_ : y68 = y65 := Option.some.inj (hy68.symm.trans (by rw [show (Int.toNat (n1)) = pre_.length from by omega]; exact he_)); rw [hye_] at h71; first | exact h71 rfl | omega; done)
                   | (
                     fail)
                 · skip
                   rw [h71] at hA
                   have h71 := of_bne_f h71
                   first
                   | (exfalso; clear hA hW; omega)
                   | (exfalso; clear hA hW; have hye_ : y68 = y65 := Option.some.inj (hy68.symm.trans (by rw [show (Int.toNat (n1)) = pre_.length from by omega]; exact he_)); rw [hye_] at h71; first | exact h71 rfl | omega; done)
                   | (
                     refine st_rdF (v := Value.int .u32 y65.word) hA (by kernel_rfl) (by kernel_rfl) (by kernel_rfl) (by kernel_rfl) hW.cls (Rd.pure fun _ => by kernel_rfl) ?_; clear hA ac; intro ac hA
                     refine st_rdF (v := Value.slice (some ⟨b69, o70, none⟩) (g27).length co29) hA (by kernel_rfl) (by kernel_rfl) (by kernel_rfl) (by kernel_rfl) hW.cls (Rd.load (b := b30) (i := 0) (by kernel_rfl) (fun _ hw => show _ = _ from (hw.1).getG 2 rfl) (by kernel_rfl)) ?_; clear hA ac; intro ac hA
                     refine st_rdF (v := Value.int .i64 n1) hA (by kernel_rfl) (by kernel_rfl) (by kernel_rfl) (by kernel_rfl) hW.cls (Rd.load (b := b60) (i := 0) (by kernel_rfl) (fun _ hw => (hw.1).cel 1 rfl) (by kernel_rfl)) ?_; clear hA ac; intro ac hA
                     refine st_rdF (v := Value.pointer (some ⟨b69, o70 + (Int.toNat (n1)) * 2, none⟩)) hA (by kernel_rfl) (by kernel_rfl) (by kernel_rfl) (by kernel_rfl) hW.cls (Rd.indexAddrI (e := 30) (sz := 2) (b := b69) (off := o70) (n := (g27).length) (c := co29) (k := n1) (by kernel_rfl) (by kernel_rfl) (by omega) (by first | omega | (simp; done) | (simp; omega)) (fun _ => by kernel_rfl) (fun _ => by kernel_rfl)) ?_; clear hA ac; intro ac hA
                     refine st_rdF (v := Value.pointer (some ⟨b69, o70 + (Int.toNat (n1)) * 2 + 1, none⟩)) hA (by kernel_rfl) (by kernel_rfl) (by kernel_rfl) (by kernel_rfl) hW.cls (Rd.pure fun _ => by kernel_rfl) ?_; clear hA ac; intro ac hA
                     refine st_rdF (v := Value.int .u32 y68.word) hA (by kernel_rfl) (by kernel_rfl) (by kernel_rfl) (by kernel_rfl) hW.cls (Rd.loadRow (b := b69) (i := o70 + (Int.toNat (n1)) * 2 + 1) (xs := [Value.int .u32 y68.word]) (by kernel_rfl) (fun _ hw => row_ld ((hw.1).getG 4 rfl) hy68 (Fr.refl No _) (fun h => h) 1 1 (by kernel_rfl)) (by kernel_rfl)) ?_; clear hA ac; intro ac hA
                     refine st_rdF (v := Value.bool ((y65.word : Int) != (y68.word : Int))) hA (by kernel_rfl) (by kernel_rfl) (by kernel_rfl) (by kernel_rfl) hW.cls (Rd.pure fun _ => by kernel_rfl) ?_; clear hA ac; intro ac hA
                     refine st_rdF (v := Value.bool ((y65.word : Int) != (y68.word : Int))) hA (by kernel_rfl) (by kernel_rfl) (by kernel_rfl) (by kernel_rfl) hW.cls (Rd.pure fun _ => by kernel_rfl) ?_; clear hA ac; intro ac hA
                     refine wpListIn_nil ?_
                     refine thenN ?_
                     refine wpIn_cond_split (t := (y65.word : Int) != (y68.word : Int)) (hA.eval (by kernel_rfl)) (fun h72 => ?_) (fun h72 => ?_)
                     · skip
                       have h72 := bne_iff_ne.1 h72
                       first
                       | (exfalso; clear hA hW; omega)
                       | (exfalso; clear hA hW; have hye_ : y68 = y65 := Option.some.inj (hy68.symm.trans (by rw [show (Int.toNat (n1)) = pre_.length from by omega]; exact he_)); rw [hye_] at h72; first | exact h72 rfl | omega; done)
                       | (
                         fail)
                     · skip
                       have h72 := of_bne_f h72
                       first
                       | (exfalso; clear hA hW; omega)
                       | (exfalso; clear hA hW; have hye_ : y68 = y65 := Option.some.inj (hy68.symm.trans (by rw [show (Int.toNat (n1)) = pre_.length from by omega]; exact he_)); rw [hye_] at h72; first | exact h72 rfl | omega; done)
                       | (
                         refine wpIn_skip ?_
                         refine thenN ?_
                         refine wpIn_seq ?_
                         refine wpIn_region_lit ?_
                         refine st_rdF (v := Value.int .i64 n1) hA (by kernel_rfl) (by kernel_rfl) (by kernel_rfl) (by kernel_rfl) hW.cls (Rd.load (b := b60) (i := 0) (by kernel_rfl) (fun _ hw => (hw.1).cel 1 rfl) (by kernel_rfl)) ?_; clear hA ac; intro ac hA
                         refine st_rdF (v := Value.int .i64 ((n1 : Int) + 1)) hA (by kernel_rfl) (by kernel_rfl) (by kernel_rfl) (by kernel_rfl) hW.cls (Rd.pureE (v0 := Value.int .i64 (IntKind.i64.wrap ((n1 : Int) + 1))) (fun _ => by kernel_rfl) (congrArg (Value.int .i64) ((w_i64 (x := (n1 : Int) + 1) (by omega) (by omega)).trans (by omega)))) ?_; clear hA ac; intro ac hA
                         refine stF hA (by kernel_rfl) (by kernel_rfl) (by kernel_rfl) (by kernel_rfl) (RunsF.of (Runs.store (v := Value.int .i64 ((n1 : Int) + 1)) (b := b60) (j := 0) (n := 1) (cs' := #[Value.int .i64 ((n1 : Int) + 1)]) (H' := [bs_63, Cel b60 #[Value.int .i64 ((n1 : Int) + 1)] 3]) (by kernel_rfl) (by kernel_rfl) (by kernel_rfl) (by kernel_rfl) (by kernel_rfl) hW 1 (by rfl) (Nat.le_of_ble_eq_true (by kernel_rfl)) (by kernel_rfl) (by rfl) ?_)); clear hA ac hW; intro w73 hW ac hA
                         refine wpListIn_nil ?_
                         refine thenN ?_
                         refine wpIn_seq ?_
                         refine wpIn_region_lit ?_
                         refine st_rdF (v := Value.int .i64 1) hA (by kernel_rfl) (by kernel_rfl) (by kernel_rfl) (by kernel_rfl) hW.cls (Rd.load (b := b56) (i := 0) (by kernel_rfl) (fun _ hw => show _ = _ from (hw.1).getG 0 rfl) (by kernel_rfl)) ?_; clear hA ac; intro ac hA
                         refine st_rdF (v := Value.bool false) hA (by kernel_rfl) (by kernel_rfl) (by kernel_rfl) (by kernel_rfl) hW.cls (Rd.pure fun _ => by kernel_rfl) ?_; clear hA ac; intro ac hA
                         refine st_rdF (v := Value.bool false) hA (by kernel_rfl) (by kernel_rfl) (by kernel_rfl) (by kernel_rfl) hW.cls (Rd.pure fun _ => by kernel_rfl) ?_; clear hA ac; intro ac hA
                         refine st_skipF hA (by kernel_rfl) (by kernel_rfl) ?_; clear hA ac; intro ac hA
                         refine st_skipF hA (by kernel_rfl) (by kernel_rfl) ?_; clear hA ac; intro ac hA
                         refine st_skipF hA (by kernel_rfl) (by kernel_rfl) ?_; clear hA ac; intro ac hA
                         refine st_rdF (v := Value.bool false) hA (by kernel_rfl) (by kernel_rfl) (by kernel_rfl) (by kernel_rfl) hW.cls (Rd.pure fun _ => by kernel_rfl) ?_; clear hA ac; intro ac hA
                         refine wpListIn_nil ?_
                         refine thenN ?_
                         refine wpIn_cond_false (hA.eval (by kernel_rfl)) ?_
                         refine wpIn_skip ?_
                         refine blkN ?_
                         exact ⟨_, ⟨(n1 : Int) + 1, trivial, by simp; omega, rfl⟩, (hW.pick [0, 1] (by decide) rfl).pickG [0, 1, 2, 3, 4, 5, 6, 7, 8, 9] rfl⟩)))
           · skip
             clear hA ac hW; intro D74 pre_ Hk_ w75 ac hS_ hJ_ hA hW
             obtain ⟨n1, _, hn, rfl⟩ := hJ_
             replace hW : Ws w No [Cel b60 #[Value.int .i64 n1] 3, DefR D74, Cel b36 #[Value.int .i64 n0] 3, DefR D51, Cel b16 #[Value.slice Ao13 (n12).length co14] 38, MemR n9 n10 u25, Cel b3 #[Value.bool false] 4] [Cel b56 #[Value.int .i64 1] 3, Cel b33 #[Value.int .i64 0] 3, Cel b30 #[Value.slice Ao28 (g27).length co29] 22, Cel b1 #[Value.int .i64 many] 3, roR Ao28 2 enCell6 g27, roR (some ⟨b22, 0, none⟩) 2 enCell6 ([(⟨frm, 9⟩ : Cell6), (⟨4294967295, 8⟩ : Cell6)] : List Cell6), Cel b22 #[Value.int .u32 frm, Value.int .u32 9, Value.int .u32 4294967295, Value.int .u32 8] 30, g21, roR Ao13 2 enCell6 n12, roR A_l 2 enCell6 l] w75 := hW
             have hall_ : pre_.length = g27.length := by obtain ⟨ks_, h1_, h2_, h3_⟩ := hS_; rw [h3_, hw8_hR.cells h1_ h2_, ← hw26_hF]
             refine blkN ?_
             refine thenN ?_
             refine wpIn_seq ?_
             refine wpIn_region_lit ?_
             refine st_rdF (v := Value.int .i64 1) hA (by kernel_rfl) (by kernel_rfl) (by kernel_rfl) (by kernel_rfl) hW.cls (Rd.load (b := b56) (i := 0) (by kernel_rfl) (fun _ hw => show _ = _ from (hw.1).getG 0 rfl) (by kernel_rfl)) ?_; clear hA ac; intro ac hA
             refine st_rdF (v := Value.bool false) hA (by kernel_rfl) (by kernel_rfl) (by kernel_rfl) (by kernel_rfl) hW.cls (Rd.pure fun _ => by kernel_rfl) ?_; clear hA ac; intro ac hA
             refine st_rdF (v := Value.bool false) hA (by kernel_rfl) (by kernel_rfl) (by kernel_rfl) (by kernel_rfl) hW.cls (Rd.pure fun _ => by kernel_rfl) ?_; clear hA ac; intro ac hA
             refine st_skipF hA (by kernel_rfl) (by kernel_rfl) ?_; clear hA ac; intro ac hA
             refine st_skipF hA (by kernel_rfl) (by kernel_rfl) ?_; clear hA ac; intro ac hA
             refine st_skipF hA (by kernel_rfl) (by kernel_rfl) ?_; clear hA ac; intro ac hA
             refine st_skipF hA (by kernel_rfl) (by kernel_rfl) ?_; clear hA ac; intro ac hA
             refine st_skipF hA (by kernel_rfl) (by kernel_rfl) ?_; clear hA ac; intro ac hA
             refine st_skipF hA (by kernel_rfl) (by kernel_rfl) ?_; clear hA ac; intro ac hA
             refine st_skipF hA (by kernel_rfl) (by kernel_rfl) ?_; clear hA ac; intro ac hA
             refine st_rdF (v := Value.bool false) hA (by kernel_rfl) (by kernel_rfl) (by kernel_rfl) (by kernel_rfl) hW.cls (Rd.pure fun _ => by kernel_rfl) ?_; clear hA ac; intro ac hA
             refine st_rdF (v := Value.bool false) hA (by kernel_rfl) (by kernel_rfl) (by kernel_rfl) (by kernel_rfl) hW.cls (Rd.pure fun _ => by kernel_rfl) ?_; clear hA ac; intro ac hA
             refine st_rdF (v := Value.int .i64 1) hA (by kernel_rfl) (by kernel_rfl) (by kernel_rfl) (by kernel_rfl) hW.cls (Rd.load (b := b56) (i := 0) (by kernel_rfl) (fun _ hw => show _ = _ from (hw.1).getG 0 rfl) (by kernel_rfl)) ?_; clear hA ac; intro ac hA
             refine st_rdF (v := Value.bool true) hA (by kernel_rfl) (by kernel_rfl) (by kernel_rfl) (by kernel_rfl) hW.cls (Rd.pure fun _ => by kernel_rfl) ?_; clear hA ac; intro ac hA
             refine st_rdF (v := Value.bool true) hA (by kernel_rfl) (by kernel_rfl) (by kernel_rfl) (by kernel_rfl) hW.cls (Rd.pure fun _ => by kernel_rfl) ?_; clear hA ac; intro ac hA
             refine st_rdF (v := Value.int .i64 n1) hA (by kernel_rfl) (by kernel_rfl) (by kernel_rfl) (by kernel_rfl) hW.cls (Rd.load (b := b60) (i := 0) (by kernel_rfl) (fun _ hw => (hw.1).cel 0 rfl) (by kernel_rfl)) ?_; clear hA ac; intro ac hA
             refine st_rdF (v := Value.slice Ao28 (g27).length co29) hA (by kernel_rfl) (by kernel_rfl) (by kernel_rfl) (by kernel_rfl) hW.cls (Rd.load (b := b30) (i := 0) (by kernel_rfl) (fun _ hw => show _ = _ from (hw.1).getG 2 rfl) (by kernel_rfl)) ?_; clear hA ac; intro ac hA
             refine st_rdF (v := Value.int .i64 (((g27).length : Nat) : Int)) hA (by kernel_rfl) (by kernel_rfl) (by kernel_rfl) (by kernel_rfl) hW.cls (Rd.pure fun _ => by kernel_rfl) ?_; clear hA ac; intro ac hA
             refine st_rdF (v := Value.bool ((n1 : Int) != ((((g27).length : Nat) : Int) : Int))) hA (by kernel_rfl) (by kernel_rfl) (by kernel_rfl) (by kernel_rfl) hW.cls (Rd.pure fun _ => by kernel_rfl) ?_; clear hA ac; intro ac hA
             refine st_rdF (v := Value.bool ((n1 : Int) != ((((g27).length : Nat) : Int) : Int))) hA (by kernel_rfl) (by kernel_rfl) (by kernel_rfl) (by kernel_rfl) hW.cls (Rd.pure fun _ => by kernel_rfl) ?_; clear hA ac; intro ac hA
             refine st_rdF (v := Value.bool ((n1 : Int) != ((((g27).length : Nat) : Int) : Int))) hA (by kernel_rfl) (by kernel_rfl) (by kernel_rfl) (by kernel_rfl) hW.cls (Rd.pure fun _ => by kernel_rfl) ?_; clear hA ac; intro ac hA
             refine wpListIn_nil ?_
             refine thenN ?_
             refine wpIn_cond_split (t := (n1 : Int) != ((((g27).length : Nat) : Int) : Int)) (hA.eval (by kernel_rfl)) (fun h76 => ?_) (fun h76 => ?_)
             · skip
               have h76 := bne_iff_ne.1 h76
               first
               | (exfalso; clear hA hW; omega)
               | (
                 refine wpIn_seq ?_
                 refine wpIn_region_lit ?_
                 refine stF hA (by kernel_rfl) (by kernel_rfl) (by kernel_rfl) (by kernel_rfl) (RunsF.of (Runs.store (v := Value.bool false) (b := b3) (j := 0) (n := 1) (cs' := #[Value.bool false]) (H' := [Cel b60 #[Value.int .i64 n1] 3, DefR D74, Cel b36 #[Value.int .i64 n0] 3, DefR D51, Cel b16 #[Value.slice Ao13 (n12).length co14] 38, MemR n9 n10 u25, Cel b3 #[Value.bool false] 4]) (by kernel_rfl) (by kernel_rfl) (by kernel_rfl) (by kernel_rfl) (by kernel_rfl) hW 6 (by rfl) (Nat.le_of_ble_eq_true (by kernel_rfl)) (by kernel_rfl) (by rfl) ?_)); clear hA ac hW; intro w77 hW ac hA
                 refine wpListIn_nil ?_
                 refine thenN ?_
                 refine wpIn_ret ?_
                 refine blkR ?_
                 refine thenR ?_
                 refine thenR ?_
                 refine blkR ?_
                 refine thenR ?_
                 refine retF (.inl rfl) hA ?_
                 refine leaveD (H' := [Cel b60 #[Value.int .i64 n1] 3, Cel b36 #[Value.int .i64 n0] 3, DefR D51, Cel b16 #[Value.slice Ao13 (n12).length co14] 38, MemR n9 n10 u25, Cel b3 #[Value.bool false] 4]) hW 1 rfl rfl ?_; clear hW; intro w78 hW
                 refine leaveD (H' := [Cel b60 #[Value.int .i64 n1] 3, Cel b36 #[Value.int .i64 n0] 3, Cel b16 #[Value.slice Ao13 (n12).length co14] 38, MemR n9 n10 u25, Cel b3 #[Value.bool false] 4]) hW 2 rfl rfl ?_; clear hW; intro w79 hW
                 refine leave1 (v := Value.bool false) (by rfl) (GotF.cell (b := b3) (i := 0) hA (by kernel_rfl) (by kernel_rfl) (hW.cel 4 rfl) (by kernel_rfl)) ?_
                 clear hA
                 exact ⟨retv (by rfl), hW.fr⟩)
             · skip
               have h76 := of_bne_f h76
               first
               | (exfalso; clear hA hW; omega)
               | (
                 refine wpIn_skip ?_
                 refine blkN ?_
                 refine thenN ?_
                 refine wpIn_seq ?_
                 refine wpIn_seq ?_
                 refine wpIn_region_lit ?_
                 refine st_rdF (v := Value.int .i64 1) hA (by kernel_rfl) (by kernel_rfl) (by kernel_rfl) (by kernel_rfl) hW.cls (Rd.load (b := b56) (i := 0) (by kernel_rfl) (fun _ hw => show _ = _ from (hw.1).getG 0 rfl) (by kernel_rfl)) ?_; clear hA ac; intro ac hA
                 refine wpListIn_nil ?_
                 refine thenN ?_
                 refine wpIn_region_lit ?_
                 refine stF hA (by kernel_rfl) (by kernel_rfl) (by kernel_rfl) (by kernel_rfl) (RunsF.of (Runs.cells (fun b => Value.pointer (some ⟨b, 0, none⟩)) #[Value.int .i64 0] 3 (fun _ => by kernel_rfl) hW ?_)); clear hA ac hW; intro b80 w81 hW hb80 hfw81 ac hA
                 refine stF hA (by kernel_rfl) (by kernel_rfl) (by kernel_rfl) (by kernel_rfl) (RunsF.of (Runs.store (v := Value.int .i64 1) (b := b80) (j := 0) (n := 1) (cs' := #[Value.int .i64 1]) (H' := [Cel b80 #[Value.int .i64 1] 3, Cel b60 #[Value.int .i64 n1] 3, DefR D74, Cel b36 #[Value.int .i64 n0] 3, DefR D51, Cel b16 #[Value.slice Ao13 (n12).length co14] 38, MemR n9 n10 u25, Cel b3 #[Value.bool false] 4]) (by kernel_rfl) (by kernel_rfl) (by kernel_rfl) (by kernel_rfl) (by kernel_rfl) hW 0 (by rfl) (Nat.le_of_ble_eq_true (by kernel_rfl)) (by kernel_rfl) (by rfl) ?_)); clear hA ac hW; intro w82 hW ac hA
                 refine wpListIn_nil ?_
                 refine thenN ?_
                 refine wpIn_region_lit ?_
                 refine st_rdF (v := Value.int .i64 1) hA (by kernel_rfl) (by kernel_rfl) (by kernel_rfl) (by kernel_rfl) hW.cls (Rd.load (b := b80) (i := 0) (by kernel_rfl) (fun _ hw => (hw.1).cel 0 rfl) (by kernel_rfl)) ?_; clear hA ac; intro ac hA
                 refine st_rdF (v := Value.int .i64 2) hA (by kernel_rfl) (by kernel_rfl) (by kernel_rfl) (by kernel_rfl) hW.cls (Rd.pureE (v0 := Value.int .i64 (IntKind.i64.wrap ((1 : Int) + 1))) (fun _ => by kernel_rfl) (congrArg (Value.int .i64) ((w_i64 (x := (1 : Int) + 1) (by omega) (by omega)).trans (by omega)))) ?_; clear hA ac; intro ac hA
                 refine stF hA (by kernel_rfl) (by kernel_rfl) (by kernel_rfl) (by kernel_rfl) (RunsF.of (Runs.store (v := Value.int .i64 2) (b := b80) (j := 0) (n := 1) (cs' := #[Value.int .i64 2]) (H' := [Cel b80 #[Value.int .i64 2] 3, Cel b60 #[Value.int .i64 n1] 3, DefR D74, Cel b36 #[Value.int .i64 n0] 3, DefR D51, Cel b16 #[Value.slice Ao13 (n12).length co14] 38, MemR n9 n10 u25, Cel b3 #[Value.bool false] 4]) (by kernel_rfl) (by kernel_rfl) (by kernel_rfl) (by kernel_rfl) (by kernel_rfl) hW 0 (by rfl) (Nat.le_of_ble_eq_true (by kernel_rfl)) (by kernel_rfl) (by rfl) ?_)); clear hA ac hW; intro w83 hW ac hA
                 refine wpListIn_nil ?_
                 refine thenN ?_
                 rw [roundsIn_succ]
                 refine wpIn_seq ?_
                 refine wpIn_seq ?_
                 refine wpIn_region_lit ?_
                 refine st_rdF (v := Value.int .i64 2) hA (by kernel_rfl) (by kernel_rfl) (by kernel_rfl) (by kernel_rfl) hW.cls (Rd.load (b := b80) (i := 0) (by kernel_rfl) (fun _ hw => (hw.1).cel 0 rfl) (by kernel_rfl)) ?_; clear hA ac; intro ac hA
                 refine st_rdF (v := Value.bool false) hA (by kernel_rfl) (by kernel_rfl) (by kernel_rfl) (by kernel_rfl) hW.cls (Rd.pure fun _ => by kernel_rfl) ?_; clear hA ac; intro ac hA
                 refine wpListIn_nil ?_
                 refine thenN ?_
                 refine wpIn_cond_false (hA.eval (by kernel_rfl)) ?_
                 refine wpIn_exit ?_
                 refine thenX ?_
                 refine thenX ?_
                 refine blkX ?_
                 refine thenN ?_
                 refine wpIn_seq ?_
                 refine wpIn_region_lit ?_
                 refine stF hA (by kernel_rfl) (by kernel_rfl) (by kernel_rfl) (by kernel_rfl) (RunsF.of (Runs.callN (v := Value.bool true) (fun _ => by kernel_rfl) hW (e_works06 w83) ?_)); clear hA ac hW; intro w84 hW hfw84 ac hA
                 refine stF hA (by kernel_rfl) (by kernel_rfl) (by kernel_rfl) (by kernel_rfl) (RunsF.of (Runs.store (v := Value.bool true) (b := b3) (j := 0) (n := 1) (cs' := #[Value.bool true]) (H' := [Cel b80 #[Value.int .i64 2] 3, Cel b60 #[Value.int .i64 n1] 3, DefR D74, Cel b36 #[Value.int .i64 n0] 3, DefR D51, Cel b16 #[Value.slice Ao13 (n12).length co14] 38, MemR n9 n10 u25, Cel b3 #[Value.bool true] 4]) (by kernel_rfl) (by kernel_rfl) (by kernel_rfl) (by kernel_rfl) (by kernel_rfl) hW 7 (by rfl) (Nat.le_of_ble_eq_true (by kernel_rfl)) (by kernel_rfl) (by rfl) ?_)); clear hA ac hW; intro w85 hW ac hA
                 refine wpListIn_nil ?_
                 refine thenN ?_
                 refine wpIn_ret ?_
                 refine retF (.inl rfl) hA ?_
                 refine leaveD (H' := [Cel b80 #[Value.int .i64 2] 3, Cel b60 #[Value.int .i64 n1] 3, Cel b36 #[Value.int .i64 n0] 3, DefR D51, Cel b16 #[Value.slice Ao13 (n12).length co14] 38, MemR n9 n10 u25, Cel b3 #[Value.bool true] 4]) hW 2 rfl rfl ?_; clear hW; intro w86 hW
                 refine leaveD (H' := [Cel b80 #[Value.int .i64 2] 3, Cel b60 #[Value.int .i64 n1] 3, Cel b36 #[Value.int .i64 n0] 3, Cel b16 #[Value.slice Ao13 (n12).length co14] 38, MemR n9 n10 u25, Cel b3 #[Value.bool true] 4]) hW 3 rfl rfl ?_; clear hW; intro w87 hW
                 refine leave1 (v := Value.bool true) (by rfl) (GotF.cell (b := b3) (i := 0) hA (by kernel_rfl) (by kernel_rfl) (hW.cel 5 rfl) (by kernel_rfl)) ?_
                 clear hA
                 exact ⟨retv (by rfl), hW.fr⟩)
           · skip
             clear hA ac hW; intro D88 c_ pre_ Hk_ w89 ac hJ_ hA hW
             exact hJ_.elim)
     · skip
       clear hA ac hW; intro D90 c_ pre_ Hk_ w91 ac hJ_ hA hW
       rcases hJ_ with ⟨rfl, n0, hx, rfl⟩
       · skip
         replace hW : Ws w No [Cel b36 #[Value.int .i64 n0] 3, DefR D90, Cel b16 #[Value.slice Ao13 (n12).length co14] 38, MemR n9 n10 u25, Cel b3 #[Value.bool false] 4] [Cel b33 #[Value.int .i64 0] 3, Cel b30 #[Value.slice Ao28 (g27).length co29] 22, Cel b1 #[Value.int .i64 many] 3, roR Ao28 2 enCell6 g27, roR (some ⟨b22, 0, none⟩) 2 enCell6 ([(⟨frm, 9⟩ : Cell6), (⟨4294967295, 8⟩ : Cell6)] : List Cell6), Cel b22 #[Value.int .u32 frm, Value.int .u32 9, Value.int .u32 4294967295, Value.int .u32 8] 30, g21, roR Ao13 2 enCell6 n12, roR A_l 2 enCell6 l] w91 := hW
         refine wpIn_exit ?_
         refine blkX ?_
         refine thenN ?_
         refine wpIn_seq ?_
         refine wpIn_region_lit ?_
         refine st_rdF (v := Value.int .i64 0) hA (by kernel_rfl) (by kernel_rfl) (by kernel_rfl) (by kernel_rfl) hW.cls (Rd.load (b := b33) (i := 0) (by kernel_rfl) (fun _ hw => show _ = _ from (hw.1).getG 0 rfl) (by kernel_rfl)) ?_; clear hA ac; intro ac hA
         refine st_rdF (v := Value.bool true) hA (by kernel_rfl) (by kernel_rfl) (by kernel_rfl) (by kernel_rfl) hW.cls (Rd.pure fun _ => by kernel_rfl) ?_; clear hA ac; intro ac hA
         refine st_rdF (v := Value.bool true) hA (by kernel_rfl) (by kernel_rfl) (by kernel_rfl) (by kernel_rfl) hW.cls (Rd.pure fun _ => by kernel_rfl) ?_; clear hA ac; intro ac hA
         refine st_rdF (v := Value.int .i64 n0) hA (by kernel_rfl) (by kernel_rfl) (by kernel_rfl) (by kernel_rfl) hW.cls (Rd.load (b := b36) (i := 0) (by kernel_rfl) (fun _ hw => (hw.1).cel 0 rfl) (by kernel_rfl)) ?_; clear hA ac; intro ac hA
         refine st_rdF (v := Value.slice Ao28 (g27).length co29) hA (by kernel_rfl) (by kernel_rfl) (by kernel_rfl) (by kernel_rfl) hW.cls (Rd.load (b := b30) (i := 0) (by kernel_rfl) (fun _ hw => show _ = _ from (hw.1).getG 1 rfl) (by kernel_rfl)) ?_; clear hA ac; intro ac hA
         refine st_rdF (v := Value.int .i64 (((g27).length : Nat) : Int)) hA (by kernel_rfl) (by kernel_rfl) (by kernel_rfl) (by kernel_rfl) hW.cls (Rd.pure fun _ => by kernel_rfl) ?_; clear hA ac; intro ac hA
         refine st_rdF (v := Value.int .i64 many) hA (by kernel_rfl) (by kernel_rfl) (by kernel_rfl) (by kernel_rfl) hW.cls (Rd.load (b := b1) (i := 0) (by kernel_rfl) (fun _ hw => show _ = _ from (hw.1).getG 2 rfl) (by kernel_rfl)) ?_; clear hA ac; intro ac hA
         refine st_rdF (v := Value.int .i64 (max (1 : Int) (many : Int))) hA (by kernel_rfl) (by kernel_rfl) (by kernel_rfl) (by kernel_rfl) hW.cls (Rd.pureE (v0 := Value.int .i64 (if (many : Int) > (1 : Int) then (many : Int) else (1 : Int))) (fun _ => by kernel_rfl) (congrArg (Value.int .i64) (max_ _ _))) ?_; clear hA ac; intro ac hA
         refine st_rdF (v := Value.int .i64 (min ((((g27).length : Nat) : Int) : Int) (max (1 : Int) (many : Int) : Int))) hA (by kernel_rfl) (by kernel_rfl) (by kernel_rfl) (by kernel_rfl) hW.cls (Rd.pureE (v0 := Value.int .i64 (if (max (1 : Int) (many : Int) : Int) < ((((g27).length : Nat) : Int) : Int) then (max (1 : Int) (many : Int) : Int) else ((((g27).length : Nat) : Int) : Int))) (fun _ => by kernel_rfl) (congrArg (Value.int .i64) (min_ _ _))) ?_; clear hA ac; intro ac hA
         refine st_rdF (v := Value.bool ((n0 : Int) != (min ((((g27).length : Nat) : Int) : Int) (max (1 : Int) (many : Int) : Int) : Int))) hA (by kernel_rfl) (by kernel_rfl) (by kernel_rfl) (by kernel_rfl) hW.cls (Rd.pure fun _ => by kernel_rfl) ?_; clear hA ac; intro ac hA
         refine st_rdF (v := Value.bool ((n0 : Int) != (min ((((g27).length : Nat) : Int) : Int) (max (1 : Int) (many : Int) : Int) : Int))) hA (by kernel_rfl) (by kernel_rfl) (by kernel_rfl) (by kernel_rfl) hW.cls (Rd.pure fun _ => by kernel_rfl) ?_; clear hA ac; intro ac hA
         refine st_rdF (v := Value.bool ((n0 : Int) != (min ((((g27).length : Nat) : Int) : Int) (max (1 : Int) (many : Int) : Int) : Int))) hA (by kernel_rfl) (by kernel_rfl) (by kernel_rfl) (by kernel_rfl) hW.cls (Rd.pure fun _ => by kernel_rfl) ?_; clear hA ac; intro ac hA
         rcases Bool.eq_false_or_eq_true ((n0 : Int) != (min ((((g27).length : Nat) : Int) : Int) (max (1 : Int) (many : Int) : Int) : Int)) with h92 | h92
         · skip
           rw [h92] at hA
           have h92 := bne_iff_ne.1 h92
           first
           | (exfalso; clear hA hW; omega)
           | (
             refine st_skipF hA (by kernel_rfl) (by kernel_rfl) ?_; clear hA ac; intro ac hA
             refine st_skipF hA (by kernel_rfl) (by kernel_rfl) ?_; clear hA ac; intro ac hA
             refine st_skipF hA (by kernel_rfl) (by kernel_rfl) ?_; clear hA ac; intro ac hA
             refine st_skipF hA (by kernel_rfl) (by kernel_rfl) ?_; clear hA ac; intro ac hA
             refine st_skipF hA (by kernel_rfl) (by kernel_rfl) ?_; clear hA ac; intro ac hA
             refine st_skipF hA (by kernel_rfl) (by kernel_rfl) ?_; clear hA ac; intro ac hA
             refine st_skipF hA (by kernel_rfl) (by kernel_rfl) ?_; clear hA ac; intro ac hA
             refine st_skipF hA (by kernel_rfl) (by kernel_rfl) ?_; clear hA ac; intro ac hA
             refine st_rdF (v := Value.bool true) hA (by kernel_rfl) (by kernel_rfl) (by kernel_rfl) (by kernel_rfl) hW.cls (Rd.pure fun _ => by kernel_rfl) ?_; clear hA ac; intro ac hA
             refine wpListIn_nil ?_
             refine thenN ?_
             refine wpIn_cond_true (hA.eval (by kernel_rfl)) ?_
             refine wpIn_seq ?_
             refine wpIn_region_lit ?_
             refine stF hA (by kernel_rfl) (by kernel_rfl) (by kernel_rfl) (by kernel_rfl) (RunsF.of (Runs.store (v := Value.bool false) (b := b3) (j := 0) (n := 1) (cs' := #[Value.bool false]) (H' := [Cel b36 #[Value.int .i64 n0] 3, DefR D90, Cel b16 #[Value.slice Ao13 (n12).length co14] 38, MemR n9 n10 u25, Cel b3 #[Value.bool false] 4]) (by kernel_rfl) (by kernel_rfl) (by kernel_rfl) (by kernel_rfl) (by kernel_rfl) hW 4 (by rfl) (Nat.le_of_ble_eq_true (by kernel_rfl)) (by kernel_rfl) (by rfl) ?_)); clear hA ac hW; intro w93 hW ac hA
             refine wpListIn_nil ?_
             refine thenN ?_
             refine wpIn_ret ?_
             refine blkR ?_
             refine thenR ?_
             refine thenR ?_
             refine blkR ?_
             refine thenR ?_
             refine retF (.inl rfl) hA ?_
             refine leaveD (H' := [Cel b36 #[Value.int .i64 n0] 3, Cel b16 #[Value.slice Ao13 (n12).length co14] 38, MemR n9 n10 u25, Cel b3 #[Value.bool false] 4]) hW 1 rfl rfl ?_; clear hW; intro w94 hW
             refine leave1 (v := Value.bool false) (by rfl) (GotF.cell (b := b3) (i := 0) hA (by kernel_rfl) (by kernel_rfl) (hW.cel 3 rfl) (by kernel_rfl)) ?_
             clear hA
             exact ⟨retv (by rfl), hW.fr⟩)
         · skip
           rw [h92] at hA
           have h92 := of_bne_f h92
           first
           | (exfalso; clear hA hW; omega)
           | (
             refine st_rdF (v := Value.int .i64 0) hA (by kernel_rfl) (by kernel_rfl) (by kernel_rfl) (by kernel_rfl) hW.cls (Rd.load (b := b33) (i := 0) (by kernel_rfl) (fun _ hw => show _ = _ from (hw.1).getG 0 rfl) (by kernel_rfl)) ?_; clear hA ac; intro ac hA
             refine st_rdF (v := Value.bool false) hA (by kernel_rfl) (by kernel_rfl) (by kernel_rfl) (by kernel_rfl) hW.cls (Rd.pure fun _ => by kernel_rfl) ?_; clear hA ac; intro ac hA
             refine st_rdF (v := Value.bool false) hA (by kernel_rfl) (by kernel_rfl) (by kernel_rfl) (by kernel_rfl) hW.cls (Rd.pure fun _ => by kernel_rfl) ?_; clear hA ac; intro ac hA
             refine st_skipF hA (by kernel_rfl) (by kernel_rfl) ?_; clear hA ac; intro ac hA
             refine st_skipF hA (by kernel_rfl) (by kernel_rfl) ?_; clear hA ac; intro ac hA
             refine st_skipF hA (by kernel_rfl) (by kernel_rfl) ?_; clear hA ac; intro ac hA
             refine st_skipF hA (by kernel_rfl) (by kernel_rfl) ?_; clear hA ac; intro ac hA
             refine st_rdF (v := Value.bool false) hA (by kernel_rfl) (by kernel_rfl) (by kernel_rfl) (by kernel_rfl) hW.cls (Rd.pure fun _ => by kernel_rfl) ?_; clear hA ac; intro ac hA
             refine st_rdF (v := Value.bool false) hA (by kernel_rfl) (by kernel_rfl) (by kernel_rfl) (by kernel_rfl) hW.cls (Rd.pure fun _ => by kernel_rfl) ?_; clear hA ac; intro ac hA
             refine wpListIn_nil ?_
             refine thenN ?_
             refine wpIn_cond_false (hA.eval (by kernel_rfl)) ?_
             refine wpIn_skip ?_
             refine blkN ?_
             refine thenN ?_
             refine wpIn_seq ?_
             refine wpIn_seq ?_
             refine wpIn_region_lit ?_
             refine st_rdF (v := Value.int .i64 0) hA (by kernel_rfl) (by kernel_rfl) (by kernel_rfl) (by kernel_rfl) hW.cls (Rd.load (b := b33) (i := 0) (by kernel_rfl) (fun _ hw => show _ = _ from (hw.1).getG 0 rfl) (by kernel_rfl)) ?_; clear hA ac; intro ac hA
             refine wpListIn_nil ?_
             refine thenN ?_
             refine wpIn_region_lit ?_
             refine stF hA (by kernel_rfl) (by kernel_rfl) (by kernel_rfl) (by kernel_rfl) (RunsF.of (Runs.cells (fun b => Value.pointer (some ⟨b, 0, none⟩)) #[Value.int .i64 0] 3 (fun _ => by kernel_rfl) hW ?_)); clear hA ac hW; intro b95 w96 hW hb95 hfw96 ac hA
             refine stF hA (by kernel_rfl) (by kernel_rfl) (by kernel_rfl) (by kernel_rfl) (RunsF.of (Runs.store (v := Value.int .i64 0) (b := b95) (j := 0) (n := 1) (cs' := #[Value.int .i64 0]) (H' := [Cel b95 #[Value.int .i64 0] 3, Cel b36 #[Value.int .i64 n0] 3, DefR D90, Cel b16 #[Value.slice Ao13 (n12).length co14] 38, MemR n9 n10 u25, Cel b3 #[Value.bool false] 4]) (by kernel_rfl) (by kernel_rfl) (by kernel_rfl) (by kernel_rfl) (by kernel_rfl) hW 0 (by rfl) (Nat.le_of_ble_eq_true (by kernel_rfl)) (by kernel_rfl) (by rfl) ?_)); clear hA ac hW; intro w97 hW ac hA
             refine wpListIn_nil ?_
             refine thenN ?_
             refine wpIn_region_lit ?_
             refine st_rdF (v := Value.int .i64 0) hA (by kernel_rfl) (by kernel_rfl) (by kernel_rfl) (by kernel_rfl) hW.cls (Rd.load (b := b95) (i := 0) (by kernel_rfl) (fun _ hw => (hw.1).cel 0 rfl) (by kernel_rfl)) ?_; clear hA ac; intro ac hA
             refine st_rdF (v := Value.int .i64 1) hA (by kernel_rfl) (by kernel_rfl) (by kernel_rfl) (by kernel_rfl) hW.cls (Rd.pureE (v0 := Value.int .i64 (IntKind.i64.wrap ((0 : Int) + 1))) (fun _ => by kernel_rfl) (congrArg (Value.int .i64) ((w_i64 (x := (0 : Int) + 1) (by omega) (by omega)).trans (by omega)))) ?_; clear hA ac; intro ac hA
             refine stF hA (by kernel_rfl) (by kernel_rfl) (by kernel_rfl) (by kernel_rfl) (RunsF.of (Runs.store (v := Value.int .i64 1) (b := b95) (j := 0) (n := 1) (cs' := #[Value.int .i64 1]) (H' := [Cel b95 #[Value.int .i64 1] 3, Cel b36 #[Value.int .i64 n0] 3, DefR D90, Cel b16 #[Value.slice Ao13 (n12).length co14] 38, MemR n9 n10 u25, Cel b3 #[Value.bool false] 4]) (by kernel_rfl) (by kernel_rfl) (by kernel_rfl) (by kernel_rfl) (by kernel_rfl) hW 0 (by rfl) (Nat.le_of_ble_eq_true (by kernel_rfl)) (by kernel_rfl) (by rfl) ?_)); clear hA ac hW; intro w98 hW ac hA
             refine wpListIn_nil ?_
             refine thenN ?_
             rw [roundsIn_succ]
             refine wpIn_seq ?_
             refine wpIn_seq ?_
             refine wpIn_region_lit ?_
             refine st_rdF (v := Value.int .i64 1) hA (by kernel_rfl) (by kernel_rfl) (by kernel_rfl) (by kernel_rfl) hW.cls (Rd.load (b := b95) (i := 0) (by kernel_rfl) (fun _ hw => (hw.1).cel 0 rfl) (by kernel_rfl)) ?_; clear hA ac; intro ac hA
             refine st_rdF (v := Value.bool true) hA (by kernel_rfl) (by kernel_rfl) (by kernel_rfl) (by kernel_rfl) hW.cls (Rd.pure fun _ => by kernel_rfl) ?_; clear hA ac; intro ac hA
             refine wpListIn_nil ?_
             refine thenN ?_
             refine wpIn_cond_true (hA.eval (by kernel_rfl)) ?_
             refine wpIn_skip ?_
             refine thenN ?_
             refine wpIn_seq ?_
             refine wpIn_block ?_
             refine wpIn_seq ?_
             refine wpIn_region_lit ?_
             refine stF hA (by kernel_rfl) (by kernel_rfl) (by kernel_rfl) (by kernel_rfl) (RunsF.of (Runs.cells (fun b => Value.pointer (some ⟨b, 0, none⟩)) #[Value.int .i64 0] 3 (fun _ => by kernel_rfl) hW ?_)); clear hA ac hW; intro b99 w100 hW hb99 hfw100 ac hA
             refine stF hA (by kernel_rfl) (by kernel_rfl) (by kernel_rfl) (by kernel_rfl) (RunsF.of (Runs.store (v := Value.int .i64 0) (b := b99) (j := 0) (n := 1) (cs' := #[Value.int .i64 0]) (H' := [Cel b99 #[Value.int .i64 0] 3, Cel b95 #[Value.int .i64 1] 3, Cel b36 #[Value.int .i64 n0] 3, DefR D90, Cel b16 #[Value.slice Ao13 (n12).length co14] 38, MemR n9 n10 u25, Cel b3 #[Value.bool false] 4]) (by kernel_rfl) (by kernel_rfl) (by kernel_rfl) (by kernel_rfl) (by kernel_rfl) hW 0 (by rfl) (Nat.le_of_ble_eq_true (by kernel_rfl)) (by kernel_rfl) (by rfl) ?_)); clear hA ac hW; intro w101 hW ac hA
             refine wpListIn_nil ?_
             refine thenN ?_
             refine wpIn_seq ?_
             refine wpIn_seq ?_
             refine wpIn_region_lit ?_
             refine st_rdF (v := Value.func (.func 35) #[] lb20) hA (by kernel_rfl) (by kernel_rfl) (by kernel_rfl) (by kernel_rfl) hW.cls (Rd.pure fun _ => by kernel_rfl) ?_; clear hA ac; intro ac hA
             refine wpListIn_nil ?_
             refine thenN ?_
             refine wpIn_block ?_
             have hW := hW.share 1 rfl (H' := [Cel b99 #[Value.int .i64 0] 3, Cel b36 #[Value.int .i64 n0] 3, DefR D90, Cel b16 #[Value.slice Ao13 (n12).length co14] 38, MemR n9 n10 u25, Cel b3 #[Value.bool false] 4]) rfl
             refine wp_range (encs := (fun x_ : Cell6 => #[Value.int .u32 x_.addr, Value.int .u32 x_.word])) (Sx := (fun l_ : List Cell6 => ∃ ks : List Int, ks.Perm (keys (vals n11)) ∧ (ks.Pairwise fun x y => x ≤ y) ∧ l_ = cellsOf (vals n11) (frm) ks)) hA (by kernel_rfl) (by kernel_rfl) (enters_of Try.func35 (by kernel_rfl) rfl) (by kernel_rfl) (fun _ => rfl) hIg21 (List.forall_mem_singleton.2 (List.mem_of_getElem? (i := 7) rfl)) (fun pre_ H_ => ∃ n1 : Int, True ∧ (n1 = (pre_.length : Nat)) ∧ H_ = [Cel b99 #[Value.int .i64 n1] 3]) (fun _ _ _ => False) (H := [Cel b99 #[Value.int .i64 0] 3]) (K := [Cel b36 #[Value.int .i64 n0] 3, DefR D90, Cel b16 #[Value.slice Ao13 (n12).length co14] 38, MemR n9 n10 u25, Cel b3 #[Value.bool false] 4]) (hW.pick [0, 1, 2, 3, 4, 5] (by decide) rfl) ⟨0, trivial, by rfl, rfl⟩ ?_ ?_ ?_
             · skip
               clear hA ac hW; intro l_102 rd_102 bs_102 pre_ x_ Hk_ w103 T_102 ac hrd_102 hbs_102 hbr_102 hok_ hJ_ hA hW hB_102 hT_102
               obtain ⟨n1, _, hn, rfl⟩ := hJ_
               obtain ⟨y104, h_⟩ : ∃ y_, y_ = x_ := ⟨_, rfl⟩; subst h_
               replace hA : Fm 103 [] [(0, Value.slice A_l l.length c_l), (1, Value.int .u32 frm), (2, Value.int .i64 many), (5, Value.pointer (some ⟨b1, 0, none⟩)), (6, Value.pointer (some ⟨b3, 0, none⟩)), (7, Value.pointer (some ⟨n9, 0, none⟩)), (8, Value.pointer (some ⟨b16, 0, none⟩)), (9, Value.func (.func 35) #[] lb20), (10, Value.pointer (some ⟨b30, 0, none⟩)), (11, Value.pointer (some ⟨b95, 0, none⟩)), (12, Value.pointer (some ⟨b99, 0, none⟩)), (15, Value.slice A_l l.length c_l), (16, Value.int .i64 ((l.length : Nat) : Int)), (17, Value.bool (decide ((((l.length : Nat) : Int) : Int) > (30 : Int)))), (19, Value.tuple #[Value.pointer (some ⟨n9, 0, none⟩), Value.agg #[Value.slice Ao13 (n12).length co14]]), (20, Value.slice A_l l.length c_l), (21, Value.tuple #[Value.pointer (some ⟨n9, 0, none⟩), Value.agg #[Value.slice Ao13 (n12).length co14]]), (22, Value.pointer (some ⟨n9, 0, none⟩)), (23, Value.agg #[Value.slice Ao13 (n12).length co14]), (24, Value.pointer (some ⟨n9, 0, none⟩)), (25, Value.int .u32 frm), (26, Value.func (.func 35) #[] lb20), (27, Value.func (.func 35) #[] lb20), (28, Value.bool false), (29, Value.bool false), (30, Value.pointer (some ⟨n9, 0, none⟩)), (31, Value.int .u32 frm), (32, Value.agg #[Value.int .u32 frm, Value.int .u32 9]), (33, Value.agg #[Value.int .u32 4294967295, Value.int .u32 8]), (34, Value.slice (some ⟨b22, 0, none⟩) 2 2), (35, Value.int .i64 0), (36, Value.int .i64 0), (37, Value.bool false), (38, Value.bool false), (39, Value.agg #[Value.slice Ao13 (n12).length co14]), (40, Value.int .u32 frm), (41, Value.slice Ao28 (g27).length co29), (42, Value.int .i64 1), (43, Value.bool true), (44, Value.int .i64 0), (45, Value.int .i64 1), (46, Value.func (.func 35) #[] lb20), (47, Value.int .u32 y104.addr), (48, Value.int .u32 y104.word), (80, Value.int .i64 0), (81, Value.bool true), (82, Value.bool true), (83, Value.int .i64 n0), (84, Value.slice Ao28 (g27).length co29), (85, Value.int .i64 (((g27).length : Nat) : Int)), (86, Value.int .i64 many), (87, Value.int .i64 (max (1 : Int) (many : Int))), (88, Value.int .i64 (min ((((g27).length : Nat) : Int) : Int) (max (1 : Int) (many : Int) : Int))), (89, Value.bool false), (90, Value.bool false), (91, Value.bool false), (92, Value.int .i64 0), (93, Value.bool false), (94, Value.bool false), (99, Value.bool false), (100, Value.bool false), (101, Value.int .i64 0)] ac := hA.sub ⟨⟨by kernel_rfl, by kernel_rfl⟩, ⟨by kernel_rfl, by kernel_rfl⟩, ⟨by kernel_rfl, by kernel_rfl⟩, ⟨by kernel_rfl, by kernel_rfl⟩, ⟨by kernel_rfl, by kernel_rfl⟩, ⟨by kernel_rfl, by kernel_rfl⟩, ⟨by kernel_rfl, by kernel_rfl⟩, ⟨by kernel_rfl, by kernel_rfl⟩, ⟨by kernel_rfl, by kernel_rfl⟩, ⟨by kernel_rfl, by kernel_rfl⟩, ⟨by kernel_rfl, by kernel_rfl⟩, ⟨by kernel_rfl, by kernel_rfl⟩, ⟨by kernel_rfl, by kernel_rfl⟩, ⟨by kernel_rfl, by kernel_rfl⟩, ⟨by kernel_rfl, by kernel_rfl⟩, ⟨by kernel_rfl, by kernel_rfl⟩, ⟨by kernel_rfl, by kernel_rfl⟩, ⟨by kernel_rfl, by kernel_rfl⟩, ⟨by kernel_rfl, by kernel_rfl⟩, ⟨by kernel_rfl, by kernel_rfl⟩, ⟨by kernel_rfl, by kernel_rfl⟩, ⟨by kernel_rfl, by kernel_rfl⟩, ⟨by kernel_rfl, by kernel_rfl⟩, ⟨by kernel_rfl, by kernel_rfl⟩, ⟨by kernel_rfl, by kernel_rfl⟩, ⟨by kernel_rfl, by kernel_rfl⟩, ⟨by kernel_rfl, by kernel_rfl⟩, ⟨by kernel_rfl, by kernel_rfl⟩, ⟨by kernel_rfl, by kernel_rfl⟩, ⟨by kernel_rfl, by kernel_rfl⟩, ⟨by kernel_rfl, by kernel_rfl⟩, ⟨by kernel_rfl, by kernel_rfl⟩, ⟨by kernel_rfl, by kernel_rfl⟩, ⟨by kernel_rfl, by kernel_rfl⟩, ⟨by kernel_rfl, by kernel_rfl⟩, ⟨by kernel_rfl, by kernel_rfl⟩, ⟨by kernel_rfl, by kernel_rfl⟩, ⟨by kernel_rfl, by kernel_rfl⟩, ⟨by kernel_rfl, by kernel_rfl⟩, ⟨by kernel_rfl, by kernel_rfl⟩, ⟨by kernel_rfl, by kernel_rfl⟩, ⟨by kernel_rfl, by kernel_rfl⟩, ⟨by kernel_rfl, by kernel_rfl⟩, ⟨by kernel_rfl, by kernel_rfl⟩, ⟨by kernel_rfl, by kernel_rfl⟩, ⟨by kernel_rfl, by kernel_rfl⟩, ⟨by kernel_rfl, by kernel_rfl⟩, ⟨by kernel_rfl, by kernel_rfl⟩, ⟨by kernel_rfl, by kernel_rfl⟩, ⟨by kernel_rfl, by kernel_rfl⟩, ⟨by kernel_rfl, by kernel_rfl⟩, ⟨by kernel_rfl, by kernel_rfl⟩, ⟨by kernel_rfl, by kernel_rfl⟩, ⟨by kernel_rfl, by kernel_rfl⟩, ⟨by kernel_rfl, by kernel_rfl⟩, ⟨by kernel_rfl, by kernel_rfl⟩, ⟨by kernel_rfl, by kernel_rfl⟩, ⟨by kernel_rfl, by kernel_rfl⟩, ⟨by kernel_rfl, by kernel_rfl⟩, ⟨by kernel_rfl, by kernel_rfl⟩, ⟨by kernel_rfl, by kernel_rfl⟩, ⟨by kernel_rfl, by kernel_rfl⟩, trivial⟩
               have he_ := hw8_hR.comes hok_; rw [← hw26_hF] at he_; have hlt_ := (List.getElem?_eq_some_iff.1 he_).1; have hll_ : g27.length ≤ n12.length := by rw [hw26_hF]; exact fromM_len _ _
               refine wpIn_seq ?_
               refine wpIn_region_lit ?_
               refine st_rdF (v := Value.int .u32 y104.addr) hA (by kernel_rfl) (by kernel_rfl) (by kernel_rfl) (by kernel_rfl) hW.cls (Rd.pure fun _ => by kernel_rfl) ?_; clear hA ac; intro ac hA
               refine wpListIn_nil ?_
               refine thenN ?_
               refine wpIn_region_lit ?_
               refine st_rdF (v := Value.int .u32 y104.word) hA (by kernel_rfl) (by kernel_rfl) (by kernel_rfl) (by kernel_rfl) hW.cls (Rd.pure fun _ => by kernel_rfl) ?_; clear hA ac; intro ac hA
               refine wpListIn_nil ?_
               refine thenN ?_
               refine begun (bs := bs_102) (H' := [bs_102, Cel b99 #[Value.int .i64 n1] 3]) hW 0 rfl (fun b hb => by rw [hbs_102] at hb; rw [hrd_102]; exact hb) rfl ?_; clear hW; intro w105 hW
               refine wpIn_block ?_
               refine wpIn_seq ?_
               refine wpIn_seq ?_
               refine wpIn_region_lit ?_
               refine st_rdF (v := Value.int .i64 n1) hA (by kernel_rfl) (by kernel_rfl) (by kernel_rfl) (by kernel_rfl) hW.cls (Rd.load (b := b99) (i := 0) (by kernel_rfl) (fun _ hw => (hw.1).cel 1 rfl) (by kernel_rfl)) ?_; clear hA ac; intro ac hA
               refine st_rdF (v := Value.slice Ao28 (g27).length co29) hA (by kernel_rfl) (by kernel_rfl) (by kernel_rfl) (by kernel_rfl) hW.cls (Rd.load (b := b30) (i := 0) (by kernel_rfl) (fun _ hw => show _ = _ from (hw.1).getG 2 rfl) (by kernel_rfl)) ?_; clear hA ac; intro ac hA
               refine st_rdF (v := Value.int .i64 (((g27).length : Nat) : Int)) hA (by kernel_rfl) (by kernel_rfl) (by kernel_rfl) (by kernel_rfl) hW.cls (Rd.pure fun _ => by kernel_rfl) ?_; clear hA ac; intro ac hA
               refine st_rdF (v := Value.bool (decide ((n1 : Int) ≥ ((((g27).length : Nat) : Int) : Int)))) hA (by kernel_rfl) (by kernel_rfl) (by kernel_rfl) (by kernel_rfl) hW.cls (Rd.pure fun _ => by kernel_rfl) ?_; clear hA ac; intro ac hA
               refine st_rdF (v := Value.bool (decide ((n1 : Int) ≥ ((((g27).length : Nat) : Int) : Int)))) hA (by kernel_rfl) (by kernel_rfl) (by kernel_rfl) (by kernel_rfl) hW.cls (Rd.pure fun _ => by kernel_rfl) ?_; clear hA ac; intro ac hA
               rcases Bool.eq_false_or_eq_true (decide ((n1 : Int) ≥ ((((g27).length : Nat) : Int) : Int))) with h106 | h106
               · skip
                 rw [h106] at hA
                 have h106 := of_decide_eq_true h106
                 first
                 | (exfalso; clear hA hW; omega)
                 | (
                   fail)
               · skip
                 rw [h106] at hA
                 have h106 := of_decide_eq_false h106
                 first
                 | (exfalso; clear hA hW; omega)
                 | (
                   refine st_rdF (v := Value.int .u32 y104.addr) hA (by kernel_rfl) (by kernel_rfl) (by kernel_rfl) (by kernel_rfl) hW.cls (Rd.pure fun _ => by kernel_rfl) ?_; clear hA ac; intro ac hA
                   refine st_rdF (v := Value.slice Ao28 (g27).length co29) hA (by kernel_rfl) (by kernel_rfl) (by kernel_rfl) (by kernel_rfl) hW.cls (Rd.load (b := b30) (i := 0) (by kernel_rfl) (fun _ hw => show _ = _ from (hw.1).getG 2 rfl) (by kernel_rfl)) ?_; clear hA ac; intro ac hA
                   refine st_rdF (v := Value.int .i64 n1) hA (by kernel_rfl) (by kernel_rfl) (by kernel_rfl) (by kernel_rfl) hW.cls (Rd.load (b := b99) (i := 0) (by kernel_rfl) (fun _ hw => (hw.1).cel 1 rfl) (by kernel_rfl)) ?_; clear hA ac; intro ac hA
                   obtain ⟨y107, hy107⟩ : ∃ y, g27[Int.toNat (n1)]? = some y := ⟨_, List.getElem?_eq_getElem (by first | omega | (simp; done) | (simp; omega))⟩
                   obtain ⟨b108, o109, rfl, hbb108⟩ := row_some ((hW).getG 4 rfl) hy107
                   refine st_rdF (v := Value.pointer (some ⟨b108, o109 + (Int.toNat (n1)) * 2, none⟩)) hA (by kernel_rfl) (by kernel_rfl) (by kernel_rfl) (by kernel_rfl) hW.cls (Rd.indexAddrI (e := 30) (sz := 2) (b := b108) (off := o109) (n := (g27).length) (c := co29) (k := n1) (by kernel_rfl) (by kernel_rfl) (by omega) (by first | omega | (simp; done) | (simp; omega)) (fun _ => by kernel_rfl) (fun _ => by kernel_rfl)) ?_; clear hA ac; intro ac hA
                   refine st_rdF (v := Value.pointer (some ⟨b108, o109 + (Int.toNat (n1)) * 2, none⟩)) hA (by kernel_rfl) (by kernel_rfl) (by kernel_rfl) (by kernel_rfl) hW.cls (Rd.pure fun _ => by kernel_rfl) ?_; clear hA ac; intro ac hA
                   refine st_rdF (v := Value.int .u32 y107.addr) hA (by kernel_rfl) (by kernel_rfl) (by kernel_rfl) (by kernel_rfl) hW.cls (Rd.loadRow (b := b108) (i := o109 + (Int.toNat (n1)) * 2) (xs := [Value.int .u32 y107.addr]) (by kernel_rfl) (fun _ hw => row_ld ((hw.1).getG 4 rfl) hy107 (Fr.refl No _) (fun h => h) 0 1 (by kernel_rfl)) (by kernel_rfl)) ?_; clear hA ac; intro ac hA
                   refine st_rdF (v := Value.bool ((y104.addr : Int) != (y107.addr : Int))) hA (by kernel_rfl) (by kernel_rfl) (by kernel_rfl) (by kernel_rfl) hW.cls (Rd.pure fun _ => by kernel_rfl) ?_; clear hA ac; intro ac hA
                   refine st_rdF (v := Value.bool ((y104.addr : Int) != (y107.addr : Int))) hA (by kernel_rfl) (by kernel_rfl) (by kernel_rfl) (by kernel_rfl) hW.cls (Rd.pure fun _ => by kernel_rfl) ?_; clear hA ac; intro ac hA
                   refine st_rdF (v := Value.bool ((y104.addr : Int) != (y107.addr : Int))) hA (by kernel_rfl) (by kernel_rfl) (by kernel_rfl) (by kernel_rfl) hW.cls (Rd.pure fun _ => by kernel_rfl) ?_; clear hA ac; intro ac hA
                   rcases Bool.eq_false_or_eq_true ((y104.addr : Int) != (y107.addr : Int)) with h110 | h110
                   · skip
                     rw [h110] at hA
                     have h110 := bne_iff_ne.1 h110
                     first
                     | (exfalso; clear hA hW; omega)
                     | (exfalso; clear hA hW; have hye_ : y107 = y104 := Option.some.inj (hy107.symm.trans (by rw [show (Int.toNat (n1)) = pre_.length from by omega]; exact he_)); rw [hye_] at h110; first | exact h110 rfl | omega; done)
                     | (
                       fail)
                   · skip
                     rw [h110] at hA
                     have h110 := of_bne_f h110
                     first
                     | (exfalso; clear hA hW; omega)
                     | (exfalso; clear hA hW; have hye_ : y107 = y104 := Option.some.inj (hy107.symm.trans (by rw [show (Int.toNat (n1)) = pre_.length from by omega]; exact he_)); rw [hye_] at h110; first | exact h110 rfl | omega; done)
                     | (
                       refine st_rdF (v := Value.int .u32 y104.word) hA (by kernel_rfl) (by kernel_rfl) (by kernel_rfl) (by kernel_rfl) hW.cls (Rd.pure fun _ => by kernel_rfl) ?_; clear hA ac; intro ac hA
                       refine st_rdF (v := Value.slice (some ⟨b108, o109, none⟩) (g27).length co29) hA (by kernel_rfl) (by kernel_rfl) (by kernel_rfl) (by kernel_rfl) hW.cls (Rd.load (b := b30) (i := 0) (by kernel_rfl) (fun _ hw => show _ = _ from (hw.1).getG 2 rfl) (by kernel_rfl)) ?_; clear hA ac; intro ac hA
                       refine st_rdF (v := Value.int .i64 n1) hA (by kernel_rfl) (by kernel_rfl) (by kernel_rfl) (by kernel_rfl) hW.cls (Rd.load (b := b99) (i := 0) (by kernel_rfl) (fun _ hw => (hw.1).cel 1 rfl) (by kernel_rfl)) ?_; clear hA ac; intro ac hA
                       refine st_rdF (v := Value.pointer (some ⟨b108, o109 + (Int.toNat (n1)) * 2, none⟩)) hA (by kernel_rfl) (by kernel_rfl) (by kernel_rfl) (by kernel_rfl) hW.cls (Rd.indexAddrI (e := 30) (sz := 2) (b := b108) (off := o109) (n := (g27).length) (c := co29) (k := n1) (by kernel_rfl) (by kernel_rfl) (by omega) (by first | omega | (simp; done) | (simp; omega)) (fun _ => by kernel_rfl) (fun _ => by kernel_rfl)) ?_; clear hA ac; intro ac hA
                       refine st_rdF (v := Value.pointer (some ⟨b108, o109 + (Int.toNat (n1)) * 2 + 1, none⟩)) hA (by kernel_rfl) (by kernel_rfl) (by kernel_rfl) (by kernel_rfl) hW.cls (Rd.pure fun _ => by kernel_rfl) ?_; clear hA ac; intro ac hA
                       refine st_rdF (v := Value.int .u32 y107.word) hA (by kernel_rfl) (by kernel_rfl) (by kernel_rfl) (by kernel_rfl) hW.cls (Rd.loadRow (b := b108) (i := o109 + (Int.toNat (n1)) * 2 + 1) (xs := [Value.int .u32 y107.word]) (by kernel_rfl) (fun _ hw => row_ld ((hw.1).getG 4 rfl) hy107 (Fr.refl No _) (fun h => h) 1 1 (by kernel_rfl)) (by kernel_rfl)) ?_; clear hA ac; intro ac hA
                       refine st_rdF (v := Value.bool ((y104.word : Int) != (y107.word : Int))) hA (by kernel_rfl) (by kernel_rfl) (by kernel_rfl) (by kernel_rfl) hW.cls (Rd.pure fun _ => by kernel_rfl) ?_; clear hA ac; intro ac hA
                       refine st_rdF (v := Value.bool ((y104.word : Int) != (y107.word : Int))) hA (by kernel_rfl) (by kernel_rfl) (by kernel_rfl) (by kernel_rfl) hW.cls (Rd.pure fun _ => by kernel_rfl) ?_; clear hA ac; intro ac hA
                       refine wpListIn_nil ?_
                       refine thenN ?_
                       refine wpIn_cond_split (t := (y104.word : Int) != (y107.word : Int)) (hA.eval (by kernel_rfl)) (fun h111 => ?_) (fun h111 => ?_)
                       · skip
                         have h111 := bne_iff_ne.1 h111
                         first
                         | (exfalso; clear hA hW; omega)
                         | (exfalso; clear hA hW; have hye_ : y107 = y104 := Option.some.inj (hy107.symm.trans (by rw [show (Int.toNat (n1)) = pre_.length from by omega]; exact he_)); rw [hye_] at h111; first | exact h111 rfl | omega; done)
                         | (
                           fail)
                       · skip
                         have h111 := of_bne_f h111
                         first
                         | (exfalso; clear hA hW; omega)
                         | (exfalso; clear hA hW; have hye_ : y107 = y104 := Option.some.inj (hy107.symm.trans (by rw [show (Int.toNat (n1)) = pre_.length from by omega]; exact he_)); rw [hye_] at h111; first | exact h111 rfl | omega; done)
                         | (
                           refine wpIn_skip ?_
                           refine thenN ?_
                           refine wpIn_seq ?_
                           refine wpIn_region_lit ?_
                           refine st_rdF (v := Value.int .i64 n1) hA (by kernel_rfl) (by kernel_rfl) (by kernel_rfl) (by kernel_rfl) hW.cls (Rd.load (b := b99) (i := 0) (by kernel_rfl) (fun _ hw => (hw.1).cel 1 rfl) (by kernel_rfl)) ?_; clear hA ac; intro ac hA
                           refine st_rdF (v := Value.int .i64 ((n1 : Int) + 1)) hA (by kernel_rfl) (by kernel_rfl) (by kernel_rfl) (by kernel_rfl) hW.cls (Rd.pureE (v0 := Value.int .i64 (IntKind.i64.wrap ((n1 : Int) + 1))) (fun _ => by kernel_rfl) (congrArg (Value.int .i64) ((w_i64 (x := (n1 : Int) + 1) (by omega) (by omega)).trans (by omega)))) ?_; clear hA ac; intro ac hA
                           refine stF hA (by kernel_rfl) (by kernel_rfl) (by kernel_rfl) (by kernel_rfl) (RunsF.of (Runs.store (v := Value.int .i64 ((n1 : Int) + 1)) (b := b99) (j := 0) (n := 1) (cs' := #[Value.int .i64 ((n1 : Int) + 1)]) (H' := [bs_102, Cel b99 #[Value.int .i64 ((n1 : Int) + 1)] 3]) (by kernel_rfl) (by kernel_rfl) (by kernel_rfl) (by kernel_rfl) (by kernel_rfl) hW 1 (by rfl) (Nat.le_of_ble_eq_true (by kernel_rfl)) (by kernel_rfl) (by rfl) ?_)); clear hA ac hW; intro w112 hW ac hA
                           refine wpListIn_nil ?_
                           refine thenN ?_
                           refine wpIn_seq ?_
                           refine wpIn_region_lit ?_
                           refine st_rdF (v := Value.int .i64 1) hA (by kernel_rfl) (by kernel_rfl) (by kernel_rfl) (by kernel_rfl) hW.cls (Rd.load (b := b95) (i := 0) (by kernel_rfl) (fun _ hw => show _ = _ from (hw.1).getG 0 rfl) (by kernel_rfl)) ?_; clear hA ac; intro ac hA
                           refine st_rdF (v := Value.bool false) hA (by kernel_rfl) (by kernel_rfl) (by kernel_rfl) (by kernel_rfl) hW.cls (Rd.pure fun _ => by kernel_rfl) ?_; clear hA ac; intro ac hA
                           refine st_rdF (v := Value.bool false) hA (by kernel_rfl) (by kernel_rfl) (by kernel_rfl) (by kernel_rfl) hW.cls (Rd.pure fun _ => by kernel_rfl) ?_; clear hA ac; intro ac hA
                           refine st_skipF hA (by kernel_rfl) (by kernel_rfl) ?_; clear hA ac; intro ac hA
                           refine st_skipF hA (by kernel_rfl) (by kernel_rfl) ?_; clear hA ac; intro ac hA
                           refine st_skipF hA (by kernel_rfl) (by kernel_rfl) ?_; clear hA ac; intro ac hA
                           refine st_rdF (v := Value.bool false) hA (by kernel_rfl) (by kernel_rfl) (by kernel_rfl) (by kernel_rfl) hW.cls (Rd.pure fun _ => by kernel_rfl) ?_; clear hA ac; intro ac hA
                           refine wpListIn_nil ?_
                           refine thenN ?_
                           refine wpIn_cond_false (hA.eval (by kernel_rfl)) ?_
                           refine wpIn_skip ?_
                           refine blkN ?_
                           exact ⟨_, ⟨(n1 : Int) + 1, trivial, by simp; omega, rfl⟩, (hW.pick [0, 1] (by decide) rfl).pickG [0, 1, 2, 3, 4, 5, 6, 7, 8, 9] rfl⟩)))
             · skip
               clear hA ac hW; intro D113 pre_ Hk_ w114 ac hS_ hJ_ hA hW
               obtain ⟨n1, _, hn, rfl⟩ := hJ_
               replace hW : Ws w No [Cel b99 #[Value.int .i64 n1] 3, DefR D113, Cel b36 #[Value.int .i64 n0] 3, DefR D90, Cel b16 #[Value.slice Ao13 (n12).length co14] 38, MemR n9 n10 u25, Cel b3 #[Value.bool false] 4] [Cel b95 #[Value.int .i64 1] 3, Cel b33 #[Value.int .i64 0] 3, Cel b30 #[Value.slice Ao28 (g27).length co29] 22, Cel b1 #[Value.int .i64 many] 3, roR Ao28 2 enCell6 g27, roR (some ⟨b22, 0, none⟩) 2 enCell6 ([(⟨frm, 9⟩ : Cell6), (⟨4294967295, 8⟩ : Cell6)] : List Cell6), Cel b22 #[Value.int .u32 frm, Value.int .u32 9, Value.int .u32 4294967295, Value.int .u32 8] 30, g21, roR Ao13 2 enCell6 n12, roR A_l 2 enCell6 l] w114 := hW
               have hall_ : pre_.length = g27.length := by obtain ⟨ks_, h1_, h2_, h3_⟩ := hS_; rw [h3_, hw8_hR.cells h1_ h2_, ← hw26_hF]
               refine blkN ?_
               refine thenN ?_
               refine wpIn_seq ?_
               refine wpIn_region_lit ?_
               refine st_rdF (v := Value.int .i64 1) hA (by kernel_rfl) (by kernel_rfl) (by kernel_rfl) (by kernel_rfl) hW.cls (Rd.load (b := b95) (i := 0) (by kernel_rfl) (fun _ hw => show _ = _ from (hw.1).getG 0 rfl) (by kernel_rfl)) ?_; clear hA ac; intro ac hA
               refine st_rdF (v := Value.bool false) hA (by kernel_rfl) (by kernel_rfl) (by kernel_rfl) (by kernel_rfl) hW.cls (Rd.pure fun _ => by kernel_rfl) ?_; clear hA ac; intro ac hA
               refine st_rdF (v := Value.bool false) hA (by kernel_rfl) (by kernel_rfl) (by kernel_rfl) (by kernel_rfl) hW.cls (Rd.pure fun _ => by kernel_rfl) ?_; clear hA ac; intro ac hA
               refine st_skipF hA (by kernel_rfl) (by kernel_rfl) ?_; clear hA ac; intro ac hA
               refine st_skipF hA (by kernel_rfl) (by kernel_rfl) ?_; clear hA ac; intro ac hA
               refine st_skipF hA (by kernel_rfl) (by kernel_rfl) ?_; clear hA ac; intro ac hA
               refine st_skipF hA (by kernel_rfl) (by kernel_rfl) ?_; clear hA ac; intro ac hA
               refine st_skipF hA (by kernel_rfl) (by kernel_rfl) ?_; clear hA ac; intro ac hA
               refine st_skipF hA (by kernel_rfl) (by kernel_rfl) ?_; clear hA ac; intro ac hA
               refine st_skipF hA (by kernel_rfl) (by kernel_rfl) ?_; clear hA ac; intro ac hA
               refine st_rdF (v := Value.bool false) hA (by kernel_rfl) (by kernel_rfl) (by kernel_rfl) (by kernel_rfl) hW.cls (Rd.pure fun _ => by kernel_rfl) ?_; clear hA ac; intro ac hA
               refine st_rdF (v := Value.bool false) hA (by kernel_rfl) (by kernel_rfl) (by kernel_rfl) (by kernel_rfl) hW.cls (Rd.pure fun _ => by kernel_rfl) ?_; clear hA ac; intro ac hA
               refine st_rdF (v := Value.int .i64 1) hA (by kernel_rfl) (by kernel_rfl) (by kernel_rfl) (by kernel_rfl) hW.cls (Rd.load (b := b95) (i := 0) (by kernel_rfl) (fun _ hw => show _ = _ from (hw.1).getG 0 rfl) (by kernel_rfl)) ?_; clear hA ac; intro ac hA
               refine st_rdF (v := Value.bool true) hA (by kernel_rfl) (by kernel_rfl) (by kernel_rfl) (by kernel_rfl) hW.cls (Rd.pure fun _ => by kernel_rfl) ?_; clear hA ac; intro ac hA
               refine st_rdF (v := Value.bool true) hA (by kernel_rfl) (by kernel_rfl) (by kernel_rfl) (by kernel_rfl) hW.cls (Rd.pure fun _ => by kernel_rfl) ?_; clear hA ac; intro ac hA
               refine st_rdF (v := Value.int .i64 n1) hA (by kernel_rfl) (by kernel_rfl) (by kernel_rfl) (by kernel_rfl) hW.cls (Rd.load (b := b99) (i := 0) (by kernel_rfl) (fun _ hw => (hw.1).cel 0 rfl) (by kernel_rfl)) ?_; clear hA ac; intro ac hA
               refine st_rdF (v := Value.slice Ao28 (g27).length co29) hA (by kernel_rfl) (by kernel_rfl) (by kernel_rfl) (by kernel_rfl) hW.cls (Rd.load (b := b30) (i := 0) (by kernel_rfl) (fun _ hw => show _ = _ from (hw.1).getG 2 rfl) (by kernel_rfl)) ?_; clear hA ac; intro ac hA
               refine st_rdF (v := Value.int .i64 (((g27).length : Nat) : Int)) hA (by kernel_rfl) (by kernel_rfl) (by kernel_rfl) (by kernel_rfl) hW.cls (Rd.pure fun _ => by kernel_rfl) ?_; clear hA ac; intro ac hA
               refine st_rdF (v := Value.bool ((n1 : Int) != ((((g27).length : Nat) : Int) : Int))) hA (by kernel_rfl) (by kernel_rfl) (by kernel_rfl) (by kernel_rfl) hW.cls (Rd.pure fun _ => by kernel_rfl) ?_; clear hA ac; intro ac hA
               refine st_rdF (v := Value.bool ((n1 : Int) != ((((g27).length : Nat) : Int) : Int))) hA (by kernel_rfl) (by kernel_rfl) (by kernel_rfl) (by kernel_rfl) hW.cls (Rd.pure fun _ => by kernel_rfl) ?_; clear hA ac; intro ac hA
               refine st_rdF (v := Value.bool ((n1 : Int) != ((((g27).length : Nat) : Int) : Int))) hA (by kernel_rfl) (by kernel_rfl) (by kernel_rfl) (by kernel_rfl) hW.cls (Rd.pure fun _ => by kernel_rfl) ?_; clear hA ac; intro ac hA
               refine wpListIn_nil ?_
               refine thenN ?_
               refine wpIn_cond_split (t := (n1 : Int) != ((((g27).length : Nat) : Int) : Int)) (hA.eval (by kernel_rfl)) (fun h115 => ?_) (fun h115 => ?_)
               · skip
                 have h115 := bne_iff_ne.1 h115
                 first
                 | (exfalso; clear hA hW; omega)
                 | (
                   refine wpIn_seq ?_
                   refine wpIn_region_lit ?_
                   refine stF hA (by kernel_rfl) (by kernel_rfl) (by kernel_rfl) (by kernel_rfl) (RunsF.of (Runs.store (v := Value.bool false) (b := b3) (j := 0) (n := 1) (cs' := #[Value.bool false]) (H' := [Cel b99 #[Value.int .i64 n1] 3, DefR D113, Cel b36 #[Value.int .i64 n0] 3, DefR D90, Cel b16 #[Value.slice Ao13 (n12).length co14] 38, MemR n9 n10 u25, Cel b3 #[Value.bool false] 4]) (by kernel_rfl) (by kernel_rfl) (by kernel_rfl) (by kernel_rfl) (by kernel_rfl) hW 6 (by rfl) (Nat.le_of_ble_eq_true (by kernel_rfl)) (by kernel_rfl) (by rfl) ?_)); clear hA ac hW; intro w116 hW ac hA
                   refine wpListIn_nil ?_
                   refine thenN ?_
                   refine wpIn_ret ?_
                   refine blkR ?_
                   refine thenR ?_
                   refine thenR ?_
                   refine blkR ?_
                   refine thenR ?_
                   refine retF (.inl rfl) hA ?_
                   refine leaveD (H' := [Cel b99 #[Value.int .i64 n1] 3, Cel b36 #[Value.int .i64 n0] 3, DefR D90, Cel b16 #[Value.slice Ao13 (n12).length co14] 38, MemR n9 n10 u25, Cel b3 #[Value.bool false] 4]) hW 1 rfl rfl ?_; clear hW; intro w117 hW
                   refine leaveD (H' := [Cel b99 #[Value.int .i64 n1] 3, Cel b36 #[Value.int .i64 n0] 3, Cel b16 #[Value.slice Ao13 (n12).length co14] 38, MemR n9 n10 u25, Cel b3 #[Value.bool false] 4]) hW 2 rfl rfl ?_; clear hW; intro w118 hW
                   refine leave1 (v := Value.bool false) (by rfl) (GotF.cell (b := b3) (i := 0) hA (by kernel_rfl) (by kernel_rfl) (hW.cel 4 rfl) (by kernel_rfl)) ?_
                   clear hA
                   exact ⟨retv (by rfl), hW.fr⟩)
               · skip
                 have h115 := of_bne_f h115
                 first
                 | (exfalso; clear hA hW; omega)
                 | (
                   refine wpIn_skip ?_
                   refine blkN ?_
                   refine thenN ?_
                   refine wpIn_seq ?_
                   refine wpIn_seq ?_
                   refine wpIn_region_lit ?_
                   refine st_rdF (v := Value.int .i64 1) hA (by kernel_rfl) (by kernel_rfl) (by kernel_rfl) (by kernel_rfl) hW.cls (Rd.load (b := b95) (i := 0) (by kernel_rfl) (fun _ hw => show _ = _ from (hw.1).getG 0 rfl) (by kernel_rfl)) ?_; clear hA ac; intro ac hA
                   refine wpListIn_nil ?_
                   refine thenN ?_
                   refine wpIn_region_lit ?_
                   refine stF hA (by kernel_rfl) (by kernel_rfl) (by kernel_rfl) (by kernel_rfl) (RunsF.of (Runs.cells (fun b => Value.pointer (some ⟨b, 0, none⟩)) #[Value.int .i64 0] 3 (fun _ => by kernel_rfl) hW ?_)); clear hA ac hW; intro b119 w120 hW hb119 hfw120 ac hA
                   refine stF hA (by kernel_rfl) (by kernel_rfl) (by kernel_rfl) (by kernel_rfl) (RunsF.of (Runs.store (v := Value.int .i64 1) (b := b119) (j := 0) (n := 1) (cs' := #[Value.int .i64 1]) (H' := [Cel b119 #[Value.int .i64 1] 3, Cel b99 #[Value.int .i64 n1] 3, DefR D113, Cel b36 #[Value.int .i64 n0] 3, DefR D90, Cel b16 #[Value.slice Ao13 (n12).length co14] 38, MemR n9 n10 u25, Cel b3 #[Value.bool false] 4]) (by kernel_rfl) (by kernel_rfl) (by kernel_rfl) (by kernel_rfl) (by kernel_rfl) hW 0 (by rfl) (Nat.le_of_ble_eq_true (by kernel_rfl)) (by kernel_rfl) (by rfl) ?_)); clear hA ac hW; intro w121 hW ac hA
                   refine wpListIn_nil ?_
                   refine thenN ?_
                   refine wpIn_region_lit ?_
                   refine st_rdF (v := Value.int .i64 1) hA (by kernel_rfl) (by kernel_rfl) (by kernel_rfl) (by kernel_rfl) hW.cls (Rd.load (b := b119) (i := 0) (by kernel_rfl) (fun _ hw => (hw.1).cel 0 rfl) (by kernel_rfl)) ?_; clear hA ac; intro ac hA
                   refine st_rdF (v := Value.int .i64 2) hA (by kernel_rfl) (by kernel_rfl) (by kernel_rfl) (by kernel_rfl) hW.cls (Rd.pureE (v0 := Value.int .i64 (IntKind.i64.wrap ((1 : Int) + 1))) (fun _ => by kernel_rfl) (congrArg (Value.int .i64) ((w_i64 (x := (1 : Int) + 1) (by omega) (by omega)).trans (by omega)))) ?_; clear hA ac; intro ac hA
                   refine stF hA (by kernel_rfl) (by kernel_rfl) (by kernel_rfl) (by kernel_rfl) (RunsF.of (Runs.store (v := Value.int .i64 2) (b := b119) (j := 0) (n := 1) (cs' := #[Value.int .i64 2]) (H' := [Cel b119 #[Value.int .i64 2] 3, Cel b99 #[Value.int .i64 n1] 3, DefR D113, Cel b36 #[Value.int .i64 n0] 3, DefR D90, Cel b16 #[Value.slice Ao13 (n12).length co14] 38, MemR n9 n10 u25, Cel b3 #[Value.bool false] 4]) (by kernel_rfl) (by kernel_rfl) (by kernel_rfl) (by kernel_rfl) (by kernel_rfl) hW 0 (by rfl) (Nat.le_of_ble_eq_true (by kernel_rfl)) (by kernel_rfl) (by rfl) ?_)); clear hA ac hW; intro w122 hW ac hA
                   refine wpListIn_nil ?_
                   refine thenN ?_
                   rw [roundsIn_succ]
                   refine wpIn_seq ?_
                   refine wpIn_seq ?_
                   refine wpIn_region_lit ?_
                   refine st_rdF (v := Value.int .i64 2) hA (by kernel_rfl) (by kernel_rfl) (by kernel_rfl) (by kernel_rfl) hW.cls (Rd.load (b := b119) (i := 0) (by kernel_rfl) (fun _ hw => (hw.1).cel 0 rfl) (by kernel_rfl)) ?_; clear hA ac; intro ac hA
                   refine st_rdF (v := Value.bool false) hA (by kernel_rfl) (by kernel_rfl) (by kernel_rfl) (by kernel_rfl) hW.cls (Rd.pure fun _ => by kernel_rfl) ?_; clear hA ac; intro ac hA
                   refine wpListIn_nil ?_
                   refine thenN ?_
                   refine wpIn_cond_false (hA.eval (by kernel_rfl)) ?_
                   refine wpIn_exit ?_
                   refine thenX ?_
                   refine thenX ?_
                   refine blkX ?_
                   refine thenN ?_
                   refine wpIn_seq ?_
                   refine wpIn_region_lit ?_
                   refine stF hA (by kernel_rfl) (by kernel_rfl) (by kernel_rfl) (by kernel_rfl) (RunsF.of (Runs.callN (v := Value.bool true) (fun _ => by kernel_rfl) hW (e_works06 w122) ?_)); clear hA ac hW; intro w123 hW hfw123 ac hA
                   refine stF hA (by kernel_rfl) (by kernel_rfl) (by kernel_rfl) (by kernel_rfl) (RunsF.of (Runs.store (v := Value.bool true) (b := b3) (j := 0) (n := 1) (cs' := #[Value.bool true]) (H' := [Cel b119 #[Value.int .i64 2] 3, Cel b99 #[Value.int .i64 n1] 3, DefR D113, Cel b36 #[Value.int .i64 n0] 3, DefR D90, Cel b16 #[Value.slice Ao13 (n12).length co14] 38, MemR n9 n10 u25, Cel b3 #[Value.bool true] 4]) (by kernel_rfl) (by kernel_rfl) (by kernel_rfl) (by kernel_rfl) (by kernel_rfl) hW 7 (by rfl) (Nat.le_of_ble_eq_true (by kernel_rfl)) (by kernel_rfl) (by rfl) ?_)); clear hA ac hW; intro w124 hW ac hA
                   refine wpListIn_nil ?_
                   refine thenN ?_
                   refine wpIn_ret ?_
                   refine retF (.inl rfl) hA ?_
                   refine leaveD (H' := [Cel b119 #[Value.int .i64 2] 3, Cel b99 #[Value.int .i64 n1] 3, Cel b36 #[Value.int .i64 n0] 3, DefR D90, Cel b16 #[Value.slice Ao13 (n12).length co14] 38, MemR n9 n10 u25, Cel b3 #[Value.bool true] 4]) hW 2 rfl rfl ?_; clear hW; intro w125 hW
                   refine leaveD (H' := [Cel b119 #[Value.int .i64 2] 3, Cel b99 #[Value.int .i64 n1] 3, Cel b36 #[Value.int .i64 n0] 3, Cel b16 #[Value.slice Ao13 (n12).length co14] 38, MemR n9 n10 u25, Cel b3 #[Value.bool true] 4]) hW 3 rfl rfl ?_; clear hW; intro w126 hW
                   refine leave1 (v := Value.bool true) (by rfl) (GotF.cell (b := b3) (i := 0) hA (by kernel_rfl) (by kernel_rfl) (hW.cel 5 rfl) (by kernel_rfl)) ?_
                   clear hA
                   exact ⟨retv (by rfl), hW.fr⟩)
             · skip
               clear hA ac hW; intro D127 c_ pre_ Hk_ w128 ac hJ_ hA hW
               exact hJ_.elim))

theorem memfrom_walk (A : Option Addr) (len cap : Nat) (l : List Cell6) (frm many : Int) (w : World) (hl : l.length = len) (hc : len ≤ cap) (_ : cap ≤ maxLen) (hw : ∀ x ∈ l, wfCell6 x) (hr : RowAt w A 2 enCell6 l) (hf : (Lit.int .u32 frm).wf = true) (hm : (Lit.int .i64 many).wf = true) :
    Calls Try.prog 4 #[.slice A len cap, .int .u32 frm, .int .i64 many] w fun e w' => e = .returned (.bool true) ∧ Fr No w w' := by
  subst hl
  refine e_from06 A cap l frm many w hr hc (fun x hx => wf_cell6 (hw x hx)) (wf_u32 hf) ?_
  simp [Lit.wf, IntKind.min, IntKind.max] at hm
  simp only [IntKind.bits, IntKind.signed] at hm
  simp at hm
  omega
end Go.Proofs.Ytcokpdlmahlpnaa.L
